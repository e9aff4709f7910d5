/- Joined: XTopAd, XTTopK. -/
import Derived.Test.YtccefppppedgkaaGreatKHzy
set_option linter.unusedVariables false
set_option linter.unusedSimpArgs false
set_option linter.unnecessarySimpa false
set_option maxRecDepth 100000
set_option maxHeartbeats 64000000
namespace Go.Proofs.YtccefppppedgkaaGreat
theorem NN (m:Mm) (t:Nat) (a want v:Int) : ∃e:KQ,(swM m t a want v).log=m.log++[e]∧e.addr=a:=by
 obtain ⟨e,e1, -, -,e4, -⟩:=NP m t a want v
 exact ⟨e,e1,e4⟩
theorem AbR {c:AB} {t:Nat} {x:AC} {m:Mm} {n:Nat} (K:TK c t x m n) (h0:x.pc≠0) : ∃e:KQ,(stepT c t x m).m.log=m.log++[e] ∧ -1000000000≤e.addr∧e.addr≤1000000000:=by
  have hf:=K.f.facts
  have ht:=K.ht
  have htot:=K.f.tot
  have hbig:=K.f.big
  obtain ⟨k,hk,hk2,ha⟩:=BA K.lc
  obtain ⟨e,e1,e2,e3, -⟩:=EE (t:=t) (m:=m) K.lc h0
  have hn : ∀q:Int,Rdg x→0≤q→q≤sizeC c→0≤aNode c x.base.index+q∧aNode c x.base.index+q≤1000000000:=fun q hr q0 q1=>by
    have hb:=K.ba hr
    have:=CI K.f hb.1 hb.2.1 q0 q1
    omega
  rcases e3 with e3|⟨e3, -⟩
  · rw [AE hk] at e1 ⊢
    have hz:=AS hk2
    repeat' (rcases hz with rfl|hz)
    all_goals (try simp only [At] at ha)
    all_goals first
      |exact absurd hk h0
      |(refine ⟨_,rfl,?_⟩;simp only [aSeq,EI,aMail,aEpo,aHaz];omega)
      |(refine ⟨_,rfl,?_⟩;have h:=hn 0 eO (by omega) (by omega);dsimp only;omega)
      |(refine ⟨_,rfl,?_⟩;have h:=hn (1+x.i) eO (by omega) (by omega);dsimp only;omega)
      |(obtain ⟨e',a1,a2⟩:=NN m t (aMail c x.i) x.word (doneL c x.buf x.i);exact ⟨e',a1,by rw [a2];unfold aMail;omega⟩)
      |(obtain ⟨e',a1,a2⟩:=NN m t 1 x.word (x.word+1);exact ⟨e',a1,by rw [a2];omega⟩)
      |(obtain ⟨e',a1,a2⟩:=NN m t 0 (wdF x.base) (wdF x.pool.own);refine ⟨e',?_,by omega⟩;simp only [AN];unfold s15;split<;>exact a1)
      |(obtain ⟨e',a1,a2⟩:=NN m t (aMail c t) x.word (wordR x.res);refine ⟨e',?_,by rw [a2];unfold aMail;omega⟩;simp only [AN];unfold s23;dsimp only;split<;>(try rw [ED])<;>exact a1)
      | (simp only [AN];first|unfold s22|unfold s28|unfold s29
         dsimp only
         split
         all_goals
           try rw [ED]
           refine ⟨_,rfl,?_⟩
           simp only [aMail,aEpo]
           omega)
      | (refine ⟨_,rfl,?_⟩
         have ho:=(K.ow ha.1.2).2
         have h1:=CI K.f ho.1 ho.2 (k:=0) (by omega) (by omega)
         dsimp only
         omega)
      | (refine ⟨_,rfl,?_⟩
         have ho:=(K.ow ha.1.2).2
         have h1:=CI K.f ho.1 ho.2 (k:=1+x.i) (by omega) (by omega)
         dsimp only
         omega)
      | (refine ⟨_,rfl,?_⟩
         have hz:sizeC c=stateC c+c.threads:=by unfold sizeC;rw [fR K.f.ok]
         have hs:=IC K.f.ok
         have h:=hn (1+stateC c+t) eO (by omega) (by omega)
         dsimp only
         omega)
  · have hr:=IG K.f K.lc K.ht (fun h=>(K.ow h).2) e3
    exact ⟨e,e1,by omega,by omega⟩
theorem AjZ {c:AB} (f:Okc c) {s:Mc} {k:Nat} (Z:Mz c s k) (hk:k≤2000) (e:DB):s.m.log.length≤(doM c s e).m.log.length ∧ ∀a∈(doM c s e).m.log.drop s.m.log.length, -1000000000≤a.addr∧a.addr≤1000000000:=by
 have hb:=(VZ f Z e).q.ll
 have h:=SC (c:=c) (s:=s) (K:=fun m l u=>US c m l u∧s.m.log.length≤m.log.length∧(m.log.length≤100000 → ∀a∈m.log.drop s.m.log.length, -1000000000≤a.addr∧a.addr≤1000000000)) (fun m l u t q h ht hp hq hs=>?_) (fun m l u t z h ht h0=>?_) ⟨Z.q.kn,fV _,fun _ a ha=>by rw [mQ] at ha;cases ha⟩ e
 ·exact ⟨h.2.1,h.2.2 (by omega)⟩
 all_goals
  obtain ⟨⟨S,H,A,L⟩,h1,h2⟩:=h
  have hx:=EY A.inv.ll ht
 ·exact ⟨⟨S,H,GA f A hx hp hq hs,KI L hx q⟩,h1,h2⟩
 ·obtain ⟨S',H',B,_⟩:=JR (z:=z) f A hx h0
  refine ⟨⟨S',H',B,SY f A.inv L hx h0⟩,?_⟩
  obtain ⟨a0,e1, -⟩:=EE (t:=t) (m:=m) (A.inv.loc _ _ hx) h0
  rw [e1,fP,gT]
  refine ⟨by omega,fun hl a ha=>?_⟩
  rw [List.drop_append_of_le_length h1] at ha
  rcases gQ.1 ha with ha|ha
  ·exact h2 (by omega) a ha
  ·obtain ⟨a1,e2,h3⟩:=AbR (AiX f (jA (FG f) (by decide)) A L (by omega) hx) h0
   rw [e1] at e2
   have e3:=List.append_cancel_left e2
   rw [iN.1 ha,List.singleton_inj.1 e3]
   exact h3
theorem AfW {c:AB} (f:Okc c) {s:Mc} {k:Nat} (Z:Mz c s k) (hk:k≤2000) (e:DB) {t:Nat} {x:AC} (hx:s.tasks[t]? = some x) (hv:Vdg x):(0≤nodeL c x.base.index∧nodeL c x.base.index<(doM c s e).m.w.length)∧(0≤x.base.tag∧x.base.tag≤4294967296)∧ld (doM c s e).m (nodeL c x.base.index)=x.base.tag ∧ ∀a∈(doM c s e).m.log.drop s.m.log.length,a.thread≠(t:Int)→9≤(whatC c a.addr).1→(whatC c a.addr).2.1=x.base.index→a.kind=1:=by
 obtain ⟨S,H,A,L⟩:=Z.q.kn
 have K:=AiX f (jA (FG f) (by decide)) A L (by have:=Z.q.ll;omega) hx
 have hb:=K.ba (Rdg.of_v hv)
 have hf:=f.facts
 have htot:=f.tot
 have hn:=CI f hb.1 hb.2.1 (k:=0) (by omega) (by omega)
 have hnl:=DQ f.ok
 have e1:nodeL c x.base.index=aNode c x.base.index:=MX f.ok hb.1 (by omega)
 obtain ⟨S',H',A', -⟩:=(VZ f Z e).q.kn
 have hw:=A'.inv.wl
 have:=AfX f ⟨S,H,A⟩ e t x hx hv
 rw [e1]
 exact ⟨⟨by omega,by omega⟩,hb.2.2,this⟩
end Go.Proofs.YtccefppppedgkaaGreat
namespace Go.Proofs.YtccefppppedgkaaGreat
open Go.RowKit
section
attribute [local irreducible] AL AW RG Fin C Cd Cio AI AF AO
def AhW (x:AC):Bool:=decide (6≤x.pc∧x.pc≤15∨x.pc=35∨x.pc=36)
theorem AiE (x:AC):Cd Tryz.prog 33 [fTk x] (bo (AhW x)) []:=by
 unfold AhW
 by_cases h1:6≤x.pc
 ·by_cases h2:x.pc≤15
  ·rw [fW (.inl ⟨h1,h2⟩)]
   refine Ck ?_
   repeat' (first|refine A0 ?_|refine uS 6 (fun hb=>?_) (fun hb=>?_)|refine uS 11 (fun hb=>?_) (fun hb=>?_)|refine uS 16 (fun hb=>?_) (fun hb=>?_)|refine ZK2 (fun hc=>?_) (fun hc=>?_)|fail)
   all_goals exact A3 Tryz.results33
  ·by_cases h3:x.pc=35
   ·rw [fW (.inr (.inl h3))]
    refine Ck ?_
    repeat' (first|refine A0 ?_|refine uS 6 (fun hb=>?_) (fun hb=>?_)|refine uS 11 (fun hb=>?_) (fun hb=>?_)|refine uS 16 (fun hb=>?_) (fun hb=>?_)|refine ZK2 (fun hc=>?_) (fun hc=>?_)|fail)
    all_goals exact A3 Tryz.results33
   ·by_cases h4:x.pc=36
    ·rw [fW (.inr (.inr h4))]
     refine Ck ?_
     repeat' (first|refine A0 ?_|refine uS 6 (fun hb=>?_) (fun hb=>?_)|refine uS 11 (fun hb=>?_) (fun hb=>?_)|refine uS 16 (fun hb=>?_) (fun hb=>?_)|refine ZK2 (fun hc=>?_) (fun hc=>?_)|fail)
     all_goals exact A3 Tryz.results33
    ·rw [fZ (by omega)]
     refine Ck ?_
     repeat' (first|refine A0 ?_|refine uS 6 (fun hb=>?_) (fun hb=>?_)|refine uS 11 (fun hb=>?_) (fun hb=>?_)|refine uS 16 (fun hb=>?_) (fun hb=>?_)|refine ZK2 (fun hc=>?_) (fun hc=>?_)|fail)
     all_goals exact A3 Tryz.results33
 ·rw [fZ (by omega)]
  refine Ck ?_
  repeat' (first|refine A0 ?_|refine uS 6 (fun hb=>?_) (fun hb=>?_)|refine uS 11 (fun hb=>?_) (fun hb=>?_)|refine uS 16 (fun hb=>?_) (fun hb=>?_)|refine ZK2 (fun hc=>?_) (fun hc=>?_)|fail)
  all_goals exact A3 Tryz.results33
theorem o8_ (c:AB) (l:List DB) (hs:c.start.length≤1152921504606846976) (he : ∀e∈l,okE e):Cd Tryz.prog 8 [fCf c,.ln (l.map tEv)] (bo true) []:=by
 have c1:=UQ c hs
 have aw:=XL
 have e1:(l.map tEv).length=l.length:=fN _
 cases hsm:LT c
 ·rw [hsm] at c1
  refine ZEN Tryz.func8 Tryz.ntmps8 ?_
  repeat' (first|refine Hc ?_|refine uS 22 (fun hb=>?_) (fun hb=>?_)|refine uS 101 (fun hb=>?_) (fun hb=>?_)|refine uS 107 (fun hb=>?_) (fun hb=>?_)|refine uS 111 (fun hb=>?_) (fun hb=>?_)|refine uS 118 (fun hb=>?_) (fun hb=>?_)|refine ZK2 (fun hc=>?_) (fun hc=>?_)|fail)
  all_goals exact A3 Tryz.results8
 ·rw [hsm] at c1
  by_cases hl:700<l.length
  ·refine ZEN Tryz.func8 Tryz.ntmps8 ?_
   repeat' (first|refine Hc ?_|refine uS 22 (fun hb=>?_) (fun hb=>?_)|refine uS 101 (fun hb=>?_) (fun hb=>?_)|refine uS 107 (fun hb=>?_) (fun hb=>?_)|refine uS 111 (fun hb=>?_) (fun hb=>?_)|refine uS 118 (fun hb=>?_) (fun hb=>?_)|refine ZK2 (fun hc=>?_) (fun hc=>?_)|fail)
   all_goals exact A3 Tryz.results8
  ·obtain ⟨f,h4, -⟩:=UA hsm
   have hf:=f.facts
   have c2:=NY f (FG f)
   have cN:=fun i=>AiC c hs i
   have cW:=fun a ha=>AnV c hs a ha
   have hth:(thrN c:Int)=c.threads:=by unfold thrN;omega
   have hZ : ∀q,q≤l.length→Mz c (evM c l q) q:=fun q hq=>ApV f hq
   have cD : ∀q e,q<l.length→l[q]? = some e → ∃r:Int,Cio Tryz.prog 13 [.ptr 0 0,aEv e] (XO c (evM c l q) (nC c) (thrN c)) (i64 r) (XO c (evM c l (q+1)) (nC c) (thrN c)):=fun q e hq hx=>by
    rw [b_ hx]
    exact LK f (by omega) (hZ q (by omega)).q (by omega) e (he e (fO hx))
   have cK : ∀q t x,q≤l.length→(evM c l q).tasks[t]? = some x→Cio Tryz.prog 17 [.ptr 0 0,i64 (t:Nat)] (XO c (evM c l q) (nC c) (thrN c)) (fTk x) (XO c (evM c l q) (nC c) (thrN c)):=fun q t x hq hx=>NZ f (hZ q hq) (by omega) _ _ _ _ hx
   have cM : ∀q,q≤l.length→Cio Tryz.prog 30 [.ptr 0 0] (XO c (evM c l q) (nC c) (thrN c)) (.ptr 11 0) (XO c (evM c l q) (nC c) (thrN c)++[fMm (evM c l q).m])∧0<(evM c l q).m.w.length:=fun q hq=>AwD f (hZ q hq) (by omega) _ _ _ _
   have hL : ∀q,q≤l.length→(evM c l q).m.log.length≤2000∧(evM c l q).tasks.length=thrN c:=fun q hq=>⟨(FH f (hZ q hq) (by omega)).1,(FH f (hZ q hq) (by omega)).2.1⟩
   have hV : ∀(q:Nat) (e:DB) (t:Nat) (x:AC),q<l.length→l[q]? = some e→(evM c l q).tasks[t]? = some x→AhW x=true→(0≤nodeL c x.base.index∧nodeL c x.base.index<(evM c l (q+1)).m.w.length)∧(0≤x.base.tag∧x.base.tag≤4294967296)∧ld (evM c l (q+1)).m (nodeL c x.base.index)=x.base.tag ∧ ∀a∈(evM c l (q+1)).m.log.drop (evM c l q).m.log.length,a.thread≠(t:Int)→9≤(whatC c a.addr).1→(whatC c a.addr).2.1=x.base.index→a.kind=1:=fun q e t x hq hx ht hv=>by
    rw [b_ hx]
    exact AfW f (hZ q (by omega)) (by omega) e ht (by unfold AhW at hv;have:=jO hv;unfold Vdg;omega)
   have hA : ∀(q:Nat) (e:DB),q<l.length→l[q]? = some e→(evM c l q).m.log.length≤(evM c l (q+1)).m.log.length ∧ ∀a∈(evM c l (q+1)).m.log.drop (evM c l q).m.log.length, -1000000000≤a.addr∧a.addr≤1000000000:=fun q e hq hx=>by
    rw [b_ hx]
    exact AjZ f (hZ q (by omega)) (by omega) e
   have h0:DC c=evM c l 0:=rfl
   rw [h0] at c2
   clear h0 hZ
   generalize evM c l=ev at *
   generalize nodeL c=nd at *
   generalize whatC c=wh at *
   generalize nC c=n at *
   generalize thrN c=th at *
   dsimp only [XO,XB,mL,mC,mR,fMm,List.cons_append,List.nil_append] at *
   refine ZEN Tryz.func8 Tryz.ntmps8 ?_
   repeat' (first|(refine ZAL ?_;first|refine B4 ?_|refine B5 ?_|refine uA ?_|refine uK (c1) ?_|refine uK (c2) ?_)|refine uR ?_|refine uC ?_|refine AW.drawU (id:=20) mixed 0 qR ?_|refine uS 22 (fun hb=>?_) (fun hb=>?_)|refine uS 101 (fun hb=>?_) (fun hb=>?_)|refine uS 107 (fun hb=>?_) (fun hb=>?_)|refine uS 111 (fun hb=>?_) (fun hb=>?_)|refine uS 118 (fun hb=>?_) (fun hb=>?_)|refine ZK2 (fun hc=>?_) (fun hc=>?_)|fail)
   all_goals try exact ZE5
   refine AW.loopP (fun (q:Nat)=>q≤l.length) (fun (q:Nat)=>(pu (pu (pu (pu (pu (fun _=>.any) 2 (.ptr 0 0)) 5 (.ptr 1 0)) 32 (.ln (l.map tEv))) 33 (i64 (l.map tEv).length)) 34 (i64 q))) (fun (q:Nat)=>[.box 24 [i64 c.kind,i64 c.threads,i64 c.chans,i64 c.cap,i64 c.nodes,i64 c.retire,i64 c.patience,i64 c.tags,i64 c.seqs,i64 c.gens,.t (.lst (c.start.map tI))],.box 114 [i64 c.kind,i64 c.threads,i64 c.chans,i64 c.cap,i64 c.nodes,i64 c.retire,i64 c.patience,i64 c.tags,i64 c.seqs,i64 c.gens,.t (.lst (c.start.map tI)),.ptr 2 0,.sl 6 0 th,.sl 7 0 th,.sl 8 (ev q).notes.length (ev q).notes.length,.sl 9 (ev q).turns.length (ev q).turns.length,.sl 10 0 th,.sl 11 0 th,i64 (ev q).time],.box 135 [.sl 3 0 n,.sl 4 (ev q).m.log.length (ev q).m.log.length,.sl 5 (ev q).m.cnt.length (ev q).m.cnt.length,bo true],.row 0 46 1 ((ev q).m.w.map tU),.row (ev q).m.log.length 83 7 ((ev q).m.log.map tAc),.row (ev q).m.cnt.length 3 1 ((ev q).m.cnt.map tI),.row 0 55 34 ((ev q).tasks.map cTk),.row 0 145 7 ((ev q).pumps.map cPu),.row (ev q).notes.length 75 13 ((ev q).notes.map cNt),.row (ev q).turns.length 63 3 ((ev q).turns.map cTn),.row 0 3 1 ((ev q).steps.map tI),.row 0 3 1 ((ev q).most.map tI)]) (fun (q:Nat)=>l.length-q) (0) ?_ ?_ ?_
   ·exact fX _
   ·exact Wk.cq 12
   ·intro q hq
    by_cases hi:q<l.length
    ·obtain ⟨e,hx⟩ : ∃e,l[q]? = some e:=⟨_,ZgE hi⟩
     obtain ⟨r,d1⟩:=cD q e hi hx
     have d2:=cK q
     obtain ⟨d3,d3'⟩:=cM q hq
     obtain ⟨d4,d5⟩:=cM (q+1) hi
     obtain ⟨d6,d7⟩:=hL q hq
     obtain ⟨d8, -⟩:=hL (q+1) hi
     obtain ⟨d9,dA⟩:=hA q e hi hx
     have dV:=hV q e
     have cL:=s8_ (ev q).m d3' (by omega)
     have cL2:=s8_ (ev (q+1)).m d5 (by omega)
     have cP:=AgJ (ev (q+1)).m d5
     have e3:((ev q).m.log.map tAc).length=(ev q).m.log.length:=fN _
     have e4:((ev (q+1)).m.log.map tAc).length=(ev (q+1)).m.log.length:=fN _
     obtain ⟨ek,et,⟨rk,ra,rv,rd,rq⟩,ei,eo⟩:=e
     dsimp only [XO,XB,mL,mC,mR,fMm,List.cons_append,List.nil_append] at *
     repeat' (first|refine Dh ?_|refine uS 22 (fun hb=>?_) (fun hb=>?_)|refine uS 101 (fun hb=>?_) (fun hb=>?_)|refine uS 107 (fun hb=>?_) (fun hb=>?_)|refine uS 111 (fun hb=>?_) (fun hb=>?_)|refine uS 118 (fun hb=>?_) (fun hb=>?_)|refine ZK2 (fun hc=>?_) (fun hc=>?_)|fail)
     all_goals try exact ZE5
     refine AW.wk (Wk.own 8 rfl 55 34 (.push rfl rfl)) ?_
     refine AW.loopP (fun (j:Nat)=>j≤th) (fun (j:Nat)=>(pu (pu (pu (pu (pu (pu (pu (pu (fun _=>.any) 2 (.ptr 0 0)) 5 (.ptr 1 0)) 7 (.ptr 12 0)) 8 (.sl 13 j j)) 9 (i64 j)) 32 (.ln (l.map tEv))) 33 (i64 (l.map tEv).length)) 34 (i64 q))) (fun (j:Nat)=>[.box 24 [i64 c.kind,i64 c.threads,i64 c.chans,i64 c.cap,i64 c.nodes,i64 c.retire,i64 c.patience,i64 c.tags,i64 c.seqs,i64 c.gens,.t (.lst (c.start.map tI))],.box 114 [i64 c.kind,i64 c.threads,i64 c.chans,i64 c.cap,i64 c.nodes,i64 c.retire,i64 c.patience,i64 c.tags,i64 c.seqs,i64 c.gens,.t (.lst (c.start.map tI)),.ptr 2 0,.sl 6 0 th,.sl 7 0 th,.sl 8 (ev q).notes.length (ev q).notes.length,.sl 9 (ev q).turns.length (ev q).turns.length,.sl 10 0 th,.sl 11 0 th,i64 (ev q).time],.box 135 [.sl 3 0 n,.sl 4 (ev q).m.log.length (ev q).m.log.length,.sl 5 (ev q).m.cnt.length (ev q).m.cnt.length,bo true],.row 0 46 1 ((ev q).m.w.map tU),.row (ev q).m.log.length 83 7 ((ev q).m.log.map tAc),.row (ev q).m.cnt.length 3 1 ((ev q).m.cnt.map tI),.row 0 55 34 ((ev q).tasks.map cTk),.row 0 145 7 ((ev q).pumps.map cPu),.row (ev q).notes.length 75 13 ((ev q).notes.map cNt),.row (ev q).turns.length 63 3 ((ev q).turns.map cTn),.row 0 3 1 ((ev q).steps.map tI),.row 0 3 1 ((ev q).most.map tI),.box 34 [i64 ek,i64 et,i64 rk,i64 ra,i64 rv,bo rd,.t (.lst (rq.map tCs)),i64 ei,.t (.lst (eo.map tI))],.row j 55 34 (((ev q).tasks.take j).map cTk)]) (fun (j:Nat)=>th-j) (0) ?_ ?_ ?_
     ·exact fX _
     ·exact Wk.cq 14
     ·intro j hj
      have e5:(((ev q).tasks.take j).map cTk).length=j:=by rw [fN,fY];omega
      by_cases hjt:j<th
      ·obtain ⟨x,hxj⟩ : ∃x,(ev q).tasks[j]? = some x:=⟨_,ZgE (by omega)⟩
       have d2':=d2 j x hq hxj
       have e5':((ev q).tasks.take j).length=j:=by rw [fY];omega
       have eT:(ev q).tasks.take (j+1)=(ev q).tasks.take j++[x]:=by rw [iB,hxj];rfl
       repeat' (first|(refine ZAL ?_;first|(refine kL 12 rfl ?_;first|refine CN rfl rfl _ _ 86 rfl ud86 inf55 rfl rfl rfl cY aA qB qB (by first|exact app_map aE|exact app_one (f:=cTk) (x:=x) aE|exact qN) qN qS ?_|refine A_append_nlsub rfl rfl _ _ 86 rfl ud86 inf55 rfl rfl rfl rfl aJ qB qB iU.symm (.push qL qN) ?_)|(refine kL 1091 rfl ?_;first|refine A_store_rp rfl rfl 34 _ _ rfl c2_ (by decide) rfl rfl aI rfl rfl rfl (ZbT rfl) (by first|exact map_set (f:=cTk) (x:=x)|exact qN) qN ?_)|(refine kL 2767 rfl ?_;first|refine A_lit rfl rfl 86 1 _ rfl ud86 inf55 (.cons rfl .nil) (els:=[[_,_,_,_,_,_,_,_,_,_,_,_,_,_,_,_,_,_,_,_,_,_,_,_,_,_,_,_,_,_,_,_,_,_]]) rfl (by first|exact (rfl:_=List.map cTk [x])|exact qN) rfl (gB rfl) (ZbT rfl) (ZbT rfl) (.push qL qN) ?_)|(refine kL 1763 rfl ?_;first|refine A_store_rp rfl rfl 55 _ _ rfl inf55 (by decide) rfl rfl aI rfl rfl rfl (ZbT rfl) (by first|exact map_set (f:=cTk) (x:=x)|exact qN) qN ?_)|(refine kL 2659 rfl ?_;first|refine A_store_rp rfl rfl 83 _ _ rfl HV (by decide) rfl rfl aI rfl rfl rfl (ZbT rfl) (by first|exact map_set (f:=cTk) (x:=x)|exact qN) qN ?_)|refine uA ?_|refine uI [1,2,3,4,5,6,7,8,9,10,11] (d2') ?_)|refine uR ?_|refine uC ?_|refine AW.drawU (id:=20) mixed 0 qR ?_|refine uS 22 (fun hb=>?_) (fun hb=>?_)|refine uS 101 (fun hb=>?_) (fun hb=>?_)|refine uS 107 (fun hb=>?_) (fun hb=>?_)|refine uS 111 (fun hb=>?_) (fun hb=>?_)|refine uS 118 (fun hb=>?_) (fun hb=>?_)|refine ZK2 (fun hc=>?_) (fun hc=>?_)|fail)
       all_goals try exact ZE5
       refine ⟨j+1,by omega,by omega,?_⟩
       rw [eT]
       exact Wk.cq 14
      ·obtain rfl:th=j:=by omega
       have e6:(ev q).tasks.take th=(ev q).tasks:=by rw [←d7];exact jQ
       have e7:((ev q).tasks.map cTk).length=th:=by rw [fN,d7]
       rw [e6]
       repeat' (first|(refine ZAL ?_;first|refine B4 ?_|refine B5 ?_|refine uA ?_|(first|refine uI [1,2,3,4,5,6,7,8,9,10,11] (d3) ?_|refine uI [1,2,3,4,5,6,7,8,9,10,11] (d4) ?_)|refine uI [14] (cL) ?_|refine uI [1,2,3,4,5,6,7,8,9,10,11] (d1) ?_)|refine uR ?_|refine uC ?_|refine AW.drawU (id:=20) mixed 0 qR ?_|refine uS 22 (fun hb=>?_) (fun hb=>?_)|refine uS 101 (fun hb=>?_) (fun hb=>?_)|refine uS 107 (fun hb=>?_) (fun hb=>?_)|refine uS 111 (fun hb=>?_) (fun hb=>?_)|refine uS 118 (fun hb=>?_) (fun hb=>?_)|refine ZK2 (fun hc=>?_) (fun hc=>?_)|fail)
       all_goals try exact ZE5
       refine AW.loopP (fun (t:Nat)=>t≤th) (fun (t:Nat)=>(pu (pu (pu (pu (pu (pu (pu (pu (pu (pu (fun _=>.any) 2 (.ptr 0 0)) 5 (.ptr 1 0)) 10 (i64 ((ev q).m.log.map tAc).length)) 11 (.ptr 15 0)) 32 (.ln (l.map tEv))) 33 (i64 (l.map tEv).length)) 34 (i64 q)) 59 (.sl 13 th th)) 60 (i64 th)) 61 (i64 t))) (fun (t:Nat)=>[.box 24 [i64 c.kind,i64 c.threads,i64 c.chans,i64 c.cap,i64 c.nodes,i64 c.retire,i64 c.patience,i64 c.tags,i64 c.seqs,i64 c.gens,.t (.lst (c.start.map tI))],.box 114 [i64 c.kind,i64 c.threads,i64 c.chans,i64 c.cap,i64 c.nodes,i64 c.retire,i64 c.patience,i64 c.tags,i64 c.seqs,i64 c.gens,.t (.lst (c.start.map tI)),.ptr 2 0,.sl 6 0 th,.sl 7 0 th,.sl 8 (ev (q+1)).notes.length (ev (q+1)).notes.length,.sl 9 (ev (q+1)).turns.length (ev (q+1)).turns.length,.sl 10 0 th,.sl 11 0 th,i64 (ev (q+1)).time],.box 135 [.sl 3 0 n,.sl 4 (ev (q+1)).m.log.length (ev (q+1)).m.log.length,.sl 5 (ev (q+1)).m.cnt.length (ev (q+1)).m.cnt.length,bo true],.row 0 46 1 ((ev (q+1)).m.w.map tU),.row (ev (q+1)).m.log.length 83 7 ((ev (q+1)).m.log.map tAc),.row (ev (q+1)).m.cnt.length 3 1 ((ev (q+1)).m.cnt.map tI),.row 0 55 34 ((ev (q+1)).tasks.map cTk),.row 0 145 7 ((ev (q+1)).pumps.map cPu),.row (ev (q+1)).notes.length 75 13 ((ev (q+1)).notes.map cNt),.row (ev (q+1)).turns.length 63 3 ((ev (q+1)).turns.map cTn),.row 0 3 1 ((ev (q+1)).steps.map tI),.row 0 3 1 ((ev (q+1)).most.map tI),.box 34 [i64 ek,i64 et,i64 rk,i64 ra,i64 rv,bo rd,.t (.lst (rq.map tCs)),i64 ei,.t (.lst (eo.map tI))],.row th 55 34 ((ev q).tasks.map cTk),.box 135 [fU (ev q).m.w,.t (.lst ((ev q).m.log.map tAc)),.t (.lst ((ev q).m.cnt.map tI)),bo true],.box 135 [fU (ev (q+1)).m.w,.t (.lst ((ev (q+1)).m.log.map tAc)),.t (.lst ((ev (q+1)).m.cnt.map tI)),bo true]]) (fun (t:Nat)=>th-t) (0) ?_ ?_ ?_
       ·exact fX _
       ·exact Wk.cq 16
       ·intro t ht
        by_cases htt:t<th
        ·obtain ⟨x,hxt⟩ : ∃x,(ev q).tasks[t]? = some x:=⟨_,ZgE (by omega)⟩
         have cr:=AiE x
         have dVt:=dV t x hi hx hxt
         have e8:(((ev (q+1)).m.log.drop (ev q).m.log.length).map tAc).length=((ev (q+1)).m.log.drop (ev q).m.log.length).length:=fN _
         have cNx:=cN x.base.index
         have hDD:List.take ((ev (q+1)).m.log.length-((ev q).m.log.map tAc).length) (List.drop ((ev q).m.log.map tAc).length (ev (q+1)).m.log)=(ev (q+1)).m.log.drop (ev q).m.log.length:=by rw [e3,jE (by rw [gJ];exact fV _)]
         have hDl:((ev (q+1)).m.log.drop (ev q).m.log.length).length≤2000:=by rw [gJ];omega
         cases hrd:AhW x
         ·rw [hrd] at cr
          repeat' (first|(refine ZAL ?_;first|refine B4 ?_|refine B5 ?_|refine uA ?_|refine uI [15] (cL2) ?_|refine uK (cr) ?_)|(refine ZRG ?_;first|refine uR ?_|refine AT (cr) ?_)|refine uC ?_|refine AW.drawU (id:=20) mixed 0 qR ?_|refine uS 22 (fun hb=>?_) (fun hb=>?_)|refine uS 101 (fun hb=>?_) (fun hb=>?_)|refine uS 107 (fun hb=>?_) (fun hb=>?_)|refine uS 111 (fun hb=>?_) (fun hb=>?_)|refine uS 118 (fun hb=>?_) (fun hb=>?_)|refine ZK2 (fun hc=>?_) (fun hc=>?_)|fail)
          all_goals try exact ZE5
          rw [hDD]
          generalize hD:(ev (q+1)).m.log.drop (ev q).m.log.length=D at *
          refine AW.loopP (fun (i:Nat)=>i≤D.length) (fun (i:Nat)=>(pu (pu (pu (pu (pu (pu (pu (pu (pu (pu (pu (pu (pu (pu (pu (fun _=>.any) 2 (.ptr 0 0)) 5 (.ptr 1 0)) 10 (i64 ((ev q).m.log.map tAc).length)) 11 (.ptr 15 0)) 12 (i64 t)) 13 (.ptr 16 0)) 32 (.ln (l.map tEv))) 33 (i64 (l.map tEv).length)) 34 (i64 q)) 59 (.sl 13 th th)) 60 (i64 th)) 61 (i64 t)) 85 (.t (.lst (D.map tAc)))) 86 (i64 (D.map tAc).length)) 87 (i64 i))) (fun (i:Nat)=>[.box 24 [i64 c.kind,i64 c.threads,i64 c.chans,i64 c.cap,i64 c.nodes,i64 c.retire,i64 c.patience,i64 c.tags,i64 c.seqs,i64 c.gens,.t (.lst (c.start.map tI))],.box 114 [i64 c.kind,i64 c.threads,i64 c.chans,i64 c.cap,i64 c.nodes,i64 c.retire,i64 c.patience,i64 c.tags,i64 c.seqs,i64 c.gens,.t (.lst (c.start.map tI)),.ptr 2 0,.sl 6 0 th,.sl 7 0 th,.sl 8 (ev (q+1)).notes.length (ev (q+1)).notes.length,.sl 9 (ev (q+1)).turns.length (ev (q+1)).turns.length,.sl 10 0 th,.sl 11 0 th,i64 (ev (q+1)).time],.box 135 [.sl 3 0 n,.sl 4 (ev (q+1)).m.log.length (ev (q+1)).m.log.length,.sl 5 (ev (q+1)).m.cnt.length (ev (q+1)).m.cnt.length,bo true],.row 0 46 1 ((ev (q+1)).m.w.map tU),.row (ev (q+1)).m.log.length 83 7 ((ev (q+1)).m.log.map tAc),.row (ev (q+1)).m.cnt.length 3 1 ((ev (q+1)).m.cnt.map tI),.row 0 55 34 ((ev (q+1)).tasks.map cTk),.row 0 145 7 ((ev (q+1)).pumps.map cPu),.row (ev (q+1)).notes.length 75 13 ((ev (q+1)).notes.map cNt),.row (ev (q+1)).turns.length 63 3 ((ev (q+1)).turns.map cTn),.row 0 3 1 ((ev (q+1)).steps.map tI),.row 0 3 1 ((ev (q+1)).most.map tI),.box 34 [i64 ek,i64 et,i64 rk,i64 ra,i64 rv,bo rd,.t (.lst (rq.map tCs)),i64 ei,.t (.lst (eo.map tI))],.row th 55 34 ((ev q).tasks.map cTk),.box 135 [fU (ev q).m.w,.t (.lst ((ev q).m.log.map tAc)),.t (.lst ((ev q).m.cnt.map tI)),bo true],.box 135 [fU (ev (q+1)).m.w,.t (.lst ((ev (q+1)).m.log.map tAc)),.t (.lst ((ev (q+1)).m.cnt.map tI)),bo true],.box 55 [i64 x.pc,i64 x.seq,i64 x.req.kind,i64 x.req.arg,i64 x.req.value,bo x.req.dflt,.t (.lst (x.req.cases.map tCs)),bo x.slow,i64 x.round,i64 x.i,i64 x.j,i64 x.tri,i64 x.epoch,bo x.all_,i64 x.base.index,i64 x.base.tag,.t (.lst (x.buf.map tU)),.t (.lst (x.nxt.map tU)),u64 x.word,.t (.lst (x.args.map tU)),.t (.lst (x.found.map tOp)),.t (.lst (x.seen.map tU)),i64 x.pool.own.index,i64 x.pool.own.tag,.t (.lst (x.pool.free.map tSl)),.t (.lst (x.pool.old.map tOd)),i64 x.pool.spent,i64 x.res.seq,i64 x.res.cas,i64 x.res.code,i64 x.res.value,bo x.won,bo x.waits,bo x.scans]]) (fun (i:Nat)=>D.length-i) (0) ?_ ?_ ?_
          ·exact fX _
          ·exact Wk.cq 17
          ·intro i hi'
           by_cases hil:i<D.length
           ·obtain ⟨a,ha⟩ : ∃a,D[i]? = some a:=⟨_,ZgE hil⟩
            have hab:=dA a (fO ha)
            have cw:=cW a.addr (by omega)
            obtain ⟨at_,ak,aa,aw_,ao,an,aok⟩:=a
            try dsimp only at cw hab
            generalize wh aa=w3 at *
            obtain ⟨w1,w2,w3⟩:=w3
            try dsimp only at cw
            repeat' (first|refine Hd ?_|refine uS 22 (fun hb=>?_) (fun hb=>?_)|refine uS 101 (fun hb=>?_) (fun hb=>?_)|refine uS 107 (fun hb=>?_) (fun hb=>?_)|refine uS 111 (fun hb=>?_) (fun hb=>?_)|refine uS 118 (fun hb=>?_) (fun hb=>?_)|refine ZK2 (fun hc=>?_) (fun hc=>?_)|fail)
            all_goals try exact ZE5
            refine ⟨i+1,by omega,by omega,?_⟩
            exact Wk.cq 17
           ·obtain rfl:i=D.length:=by omega
            repeat' (first|refine Dh ?_|refine uS 22 (fun hb=>?_) (fun hb=>?_)|refine uS 101 (fun hb=>?_) (fun hb=>?_)|refine uS 107 (fun hb=>?_) (fun hb=>?_)|refine uS 111 (fun hb=>?_) (fun hb=>?_)|refine uS 118 (fun hb=>?_) (fun hb=>?_)|refine ZK2 (fun hc=>?_) (fun hc=>?_)|fail)
            all_goals try exact ZE5
            refine ⟨t+1,by omega,by omega,?_⟩
            exact Wk.cq 16
         ·obtain ⟨n01,⟨g0,g0'⟩,g1,g2⟩:=dVt hrd
          have cPx:=cP (nd x.base.index) n01
          rw [g1] at cPx
          rw [hrd] at cr
          repeat' (first|(refine ZAL ?_;first|refine B4 ?_|refine B5 ?_|refine uA ?_|refine uI [15] (cL2) ?_|refine uK (cr) ?_)|(refine ZRG ?_;first|refine uR ?_|refine AT (cr) ?_|refine AT (cNx) ?_|refine uJ [15] (cPx) ?_)|refine uC ?_|refine AW.drawU (id:=20) mixed 0 qR ?_|refine uS 22 (fun hb=>?_) (fun hb=>?_)|refine uS 101 (fun hb=>?_) (fun hb=>?_)|refine uS 107 (fun hb=>?_) (fun hb=>?_)|refine uS 111 (fun hb=>?_) (fun hb=>?_)|refine uS 118 (fun hb=>?_) (fun hb=>?_)|refine ZK2 (fun hc=>?_) (fun hc=>?_)|fail)
          all_goals try exact ZE5
          rw [hDD]
          generalize hD:(ev (q+1)).m.log.drop (ev q).m.log.length=D at *
          refine AW.loopP (fun (i:Nat)=>i≤D.length) (fun (i:Nat)=>(pu (pu (pu (pu (pu (pu (pu (pu (pu (pu (pu (pu (pu (pu (pu (fun _=>.any) 2 (.ptr 0 0)) 5 (.ptr 1 0)) 10 (i64 ((ev q).m.log.map tAc).length)) 11 (.ptr 15 0)) 12 (i64 t)) 13 (.ptr 16 0)) 32 (.ln (l.map tEv))) 33 (i64 (l.map tEv).length)) 34 (i64 q)) 59 (.sl 13 th th)) 60 (i64 th)) 61 (i64 t)) 85 (.t (.lst (D.map tAc)))) 86 (i64 (D.map tAc).length)) 87 (i64 i))) (fun (i:Nat)=>[.box 24 [i64 c.kind,i64 c.threads,i64 c.chans,i64 c.cap,i64 c.nodes,i64 c.retire,i64 c.patience,i64 c.tags,i64 c.seqs,i64 c.gens,.t (.lst (c.start.map tI))],.box 114 [i64 c.kind,i64 c.threads,i64 c.chans,i64 c.cap,i64 c.nodes,i64 c.retire,i64 c.patience,i64 c.tags,i64 c.seqs,i64 c.gens,.t (.lst (c.start.map tI)),.ptr 2 0,.sl 6 0 th,.sl 7 0 th,.sl 8 (ev (q+1)).notes.length (ev (q+1)).notes.length,.sl 9 (ev (q+1)).turns.length (ev (q+1)).turns.length,.sl 10 0 th,.sl 11 0 th,i64 (ev (q+1)).time],.box 135 [.sl 3 0 n,.sl 4 (ev (q+1)).m.log.length (ev (q+1)).m.log.length,.sl 5 (ev (q+1)).m.cnt.length (ev (q+1)).m.cnt.length,bo true],.row 0 46 1 ((ev (q+1)).m.w.map tU),.row (ev (q+1)).m.log.length 83 7 ((ev (q+1)).m.log.map tAc),.row (ev (q+1)).m.cnt.length 3 1 ((ev (q+1)).m.cnt.map tI),.row 0 55 34 ((ev (q+1)).tasks.map cTk),.row 0 145 7 ((ev (q+1)).pumps.map cPu),.row (ev (q+1)).notes.length 75 13 ((ev (q+1)).notes.map cNt),.row (ev (q+1)).turns.length 63 3 ((ev (q+1)).turns.map cTn),.row 0 3 1 ((ev (q+1)).steps.map tI),.row 0 3 1 ((ev (q+1)).most.map tI),.box 34 [i64 ek,i64 et,i64 rk,i64 ra,i64 rv,bo rd,.t (.lst (rq.map tCs)),i64 ei,.t (.lst (eo.map tI))],.row th 55 34 ((ev q).tasks.map cTk),.box 135 [fU (ev q).m.w,.t (.lst ((ev q).m.log.map tAc)),.t (.lst ((ev q).m.cnt.map tI)),bo true],.box 135 [fU (ev (q+1)).m.w,.t (.lst ((ev (q+1)).m.log.map tAc)),.t (.lst ((ev (q+1)).m.cnt.map tI)),bo true],.box 55 [i64 x.pc,i64 x.seq,i64 x.req.kind,i64 x.req.arg,i64 x.req.value,bo x.req.dflt,.t (.lst (x.req.cases.map tCs)),bo x.slow,i64 x.round,i64 x.i,i64 x.j,i64 x.tri,i64 x.epoch,bo x.all_,i64 x.base.index,i64 x.base.tag,.t (.lst (x.buf.map tU)),.t (.lst (x.nxt.map tU)),u64 x.word,.t (.lst (x.args.map tU)),.t (.lst (x.found.map tOp)),.t (.lst (x.seen.map tU)),i64 x.pool.own.index,i64 x.pool.own.tag,.t (.lst (x.pool.free.map tSl)),.t (.lst (x.pool.old.map tOd)),i64 x.pool.spent,i64 x.res.seq,i64 x.res.cas,i64 x.res.code,i64 x.res.value,bo x.won,bo x.waits,bo x.scans]]) (fun (i:Nat)=>D.length-i) (0) ?_ ?_ ?_
          ·exact fX _
          ·exact Wk.cq 17
          ·intro i hi'
           by_cases hil:i<D.length
           ·obtain ⟨a,ha⟩ : ∃a,D[i]? = some a:=⟨_,ZgE hil⟩
            have hab:=dA a (fO ha)
            have g3:=g2 a (fO ha)
            have cw:=cW a.addr (by omega)
            obtain ⟨at_,ak,aa,aw_,ao,an,aok⟩:=a
            try dsimp only at cw hab g3
            generalize wh aa=w3 at *
            obtain ⟨w1,w2,w3⟩:=w3
            try dsimp only at cw g3
            have g4:at_=(t:Int)∨(at_≠(t:Int)∧(w1<9∨(9≤w1∧(w2≠x.base.index∨(w2=x.base.index∧ak=1))))):=by
             by_cases b1:at_=(t:Int)
             ·exact .inl b1
             by_cases b2:9≤w1
             ·by_cases b3:w2=x.base.index
              ·exact .inr ⟨b1,.inr ⟨b2,.inr ⟨b3,g3 b1 b2 b3⟩⟩⟩
              ·exact .inr ⟨b1,.inr ⟨b2,.inl b3⟩⟩
             ·exact .inr ⟨b1,.inl (by omega)⟩
            clear g3
            rcases g4 with g4|⟨g4,g5|⟨g5,g6|⟨g6,g7⟩⟩⟩
            all_goals
             repeat' (first|refine Hd ?_|refine uS 22 (fun hb=>?_) (fun hb=>?_)|refine uS 101 (fun hb=>?_) (fun hb=>?_)|refine uS 107 (fun hb=>?_) (fun hb=>?_)|refine uS 111 (fun hb=>?_) (fun hb=>?_)|refine uS 118 (fun hb=>?_) (fun hb=>?_)|refine ZK2 (fun hc=>?_) (fun hc=>?_)|fail)
             all_goals try exact ZE5
             refine ⟨i+1,by omega,by omega,?_⟩
             exact Wk.cq 17
           ·obtain rfl:i=D.length:=by omega
            repeat' (first|refine Dh ?_|refine uS 22 (fun hb=>?_) (fun hb=>?_)|refine uS 101 (fun hb=>?_) (fun hb=>?_)|refine uS 107 (fun hb=>?_) (fun hb=>?_)|refine uS 111 (fun hb=>?_) (fun hb=>?_)|refine uS 118 (fun hb=>?_) (fun hb=>?_)|refine ZK2 (fun hc=>?_) (fun hc=>?_)|fail)
            all_goals try exact ZE5
            refine ⟨t+1,by omega,by omega,?_⟩
            exact Wk.cq 16
        ·obtain rfl:t=th:=by omega
         repeat' (first|refine Dh ?_|refine uS 22 (fun hb=>?_) (fun hb=>?_)|refine uS 101 (fun hb=>?_) (fun hb=>?_)|refine uS 107 (fun hb=>?_) (fun hb=>?_)|refine uS 111 (fun hb=>?_) (fun hb=>?_)|refine uS 118 (fun hb=>?_) (fun hb=>?_)|refine ZK2 (fun hc=>?_) (fun hc=>?_)|fail)
         all_goals try exact ZE5
         refine ⟨q+1,by omega,by omega,?_⟩
         exact Wk.cq 12
    ·obtain rfl:q=l.length:=by omega
     repeat' (first|(refine ZAL ?_;first|refine B4 ?_|refine B5 ?_|refine uA ?_|refine uK (aw) ?_)|refine uR ?_|refine uC ?_|refine AW.drawU (id:=20) mixed 0 qR ?_|refine uS 22 (fun hb=>?_) (fun hb=>?_)|refine uS 101 (fun hb=>?_) (fun hb=>?_)|refine uS 107 (fun hb=>?_) (fun hb=>?_)|refine uS 111 (fun hb=>?_) (fun hb=>?_)|refine uS 118 (fun hb=>?_) (fun hb=>?_)|refine ZK2 (fun hc=>?_) (fun hc=>?_)|fail)
     all_goals exact A3 Tryz.results8
end
end Go.Proofs.YtccefppppedgkaaGreat
