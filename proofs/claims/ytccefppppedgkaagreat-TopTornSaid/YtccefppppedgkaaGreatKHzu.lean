/- Joined: XTMachPtt. -/
import Derived.Test.YtccefppppedgkaaGreatKHzq
set_option linter.unusedVariables false
set_option linter.unusedSimpArgs false
set_option linter.unnecessarySimpa false
set_option maxRecDepth 100000
set_option maxHeartbeats 64000000
namespace Go.Proofs.YtccefppppedgkaaGreat
open Go.RowKit
section
attribute [local irreducible] AL AW RG Fin C Cd Cio AI AF AO
theorem AgN (c:AB) (s:Mc) (n th:Nat) (k:XK c s n th) (ht1:s.time+1≤1000000) (t:Nat) (ht:t<th) (k2:XK c (goesM c (AP s) t) n th) (h0 : ¬(tkM (goesM c (AP s) t) t).pc=0) (hW:(tkM (goesM c (AP s) t) t).waits=true) (hO:(stepT c t (tkM (goesM c (AP s) t) t) (goesM c (AP s) t).m).won=true) :
  Cio Tryz.prog 51 [.ptr 0 0,i64 t] (XO c s n th) (i64 0) (XO c (pickM c s t) n th):=by
 have htm:=k.tm
 have c1:=MQ c (AP s) n th (k.tick ht1) t ht
 unfold pickM
 dsimp only
 generalize goesM c (AP s) t=s1 at *
 obtain ⟨hx,hp,hst,hmo⟩:=k2.get ht
 have e1:(s1.tasks.map cTk).length=s1.tasks.length:=fN _
 have e2:(s1.pumps.map cPu).length=s1.pumps.length:=fN _
 have e3:(s1.steps.map tI).length=s1.steps.length:=fN _
 have e4:(s1.most.map tI).length=s1.most.length:=fN _
 have e5:(s1.turns.map cTn).length=s1.turns.length:=fN _
 have htl:=k2.tl
 have hpl:=k2.pl
 have hsl:=k2.sl
 have hml:=k2.ml
 have hnl:=k2.nl
 have hul:=k2.ul
 have hb1:=k2.st _ (fO hst)
 have hb2:=k2.mo _ (fO hmo)
 rw [fT h0]
 have kt:=k2.tk t _ hx h0
 have c2:=RJ kt h0
 have hnt:=KO (t:=t) (m:=s1.m) kt.lc
 have hrq:(stepT c t (tkM s1 t) s1.m).x.req.cases.length≤3:=by rw [ID kt.lc];exact k2.rq _ (fO hx)
 have hpb:=k2.pu _ (fO hp)
 have f1:tkM (AX s1 t) t=tkM s1 t:=by unfold AX tkM;split<;>rfl
 have f2:(AX s1 t).m=s1.m:=by unfold AX;split<;>rfl
 unfold LB
 rw [f1,f2]
 dsimp only
 clear f1 f2 kt
 generalize stepT c t (tkM s1 t) s1.m=o at *
 have cg:=UH (puM s1 t) o.x.res (by omega) hpb.2
 obtain ⟨y,m',note,won,ops⟩:=o
 dsimp only at *
 have cnt:=fun s3 hN htl hx'=>MR c s3 n th hN htl note t y hx' (by omega) y.res y.res ⟨fun e=>by omega,fun _=>rfl⟩
 have gy:(s1.tasks.set t y)[t]? = some y:=jF (by omega)
 have glen:(s1.tasks.set t y).length=th:=by rw [iS];exact htl
 have pe : ∀q:Mc,q.pumps=s1.pumps→puM q t=puM s1 t:=fun q e=>by unfold puM;rw [e]
 unfold AX wonM noteM FQ AP at *
 generalize tkM s1 t=x at *
 generalize hpu:puM s1 t=p at *
 generalize hg:gotP p y.res=g at *
 obtain ⟨pc,seq,req,slow,round,i,j,tri,epoch,all_,base,buf,nxt,word,args,found,seen,pool,res,xwon,waits,scans⟩:=x
 obtain ⟨on,shut,over,inn,outs,at_,value⟩:=p
 obtain ⟨m1,tasks,pumps,notes,turns,steps,most,time⟩:=s1
 dsimp only at *
 generalize steps.getD t 0=z1 at *
 have hst2:(steps.set t (z1+1))[t]? = some (z1+1):=jF (by omega)
 generalize most.getD t 0=z2 at *
 subst hW hO
 simp only [iM,jL,jU] at *
 have eT:(turns++[(⟨time,t,ops⟩:CP)]).length=turns.length+1:=by simp
 rcases hnt with h|h|h
 ·subst h
  simp only [jU,jL,(by decide : ¬(0:Int)=3),mH]
  dsimp only [XO,XB,mL,mC,mR] at *
  rw [eT]
  refine Ad ?_
  repeat' (first|refine Dc ?_|refine uS 124 (fun hb=>?_) (fun hb=>?_)|refine ZK2 (fun hc=>?_) (fun hc=>?_)|fail)
  all_goals exact A3 Tryz.results51
 ·subst h
  have c3:=cnt ⟨m',tasks.set t y,pumps,notes,turns++[⟨time,t,ops⟩],steps,most,time⟩ dS glen gy
  simp only [jU,jL,(by decide : ¬(2:Int)=3),(by decide : ¬(2:Int)=0),mH]
  dsimp only [XO,XB,mL,mC,mR] at *
  rw [eT] at c3 ⊢
  refine Ad ?_
  repeat' (first|refine B2 ?_|refine uS 124 (fun hb=>?_) (fun hb=>?_)|refine ZK2 (fun hc=>?_) (fun hc=>?_)|fail)
  all_goals exact A3 Tryz.results51
 ·subst h
  have c3:=cnt ⟨m',tasks.set t y,pumps,notes,turns++[⟨time,t,ops⟩],steps,most,time⟩ dS glen gy
  simp only [jU,jL,(by decide : ¬(3:Int)=0),true_and]
  have q1:=pe { (⟨m',tasks.set t y,pumps,notes,turns++[⟨time,t,ops⟩],steps,most,time⟩:Mc) with notes:=notes++[⟨3,t,y.seq,time,y.req,y.res⟩]} rfl
  dsimp only at q1
  rw [q1,hg]
  cases on
  ·simp only [iM,jL]
   dsimp only [XO,XB,mL,mC,mR] at *
   rw [eT] at c3 ⊢
   refine Ad ?_
   repeat' (first|refine B2 ?_|refine uS 124 (fun hb=>?_) (fun hb=>?_)|refine ZK2 (fun hc=>?_) (fun hc=>?_)|fail)
   all_goals exact A3 Tryz.results51
  ·simp only [jU]
   dsimp only [XO,XB,mL,mC,mR] at *
   rw [eT] at c3 ⊢
   refine Ad ?_
   repeat' (first|refine Dd ?_|refine uS 124 (fun hb=>?_) (fun hb=>?_)|refine ZK2 (fun hc=>?_) (fun hc=>?_)|fail)
   all_goals exact A3 Tryz.results51
end
end Go.Proofs.YtccefppppedgkaaGreat
