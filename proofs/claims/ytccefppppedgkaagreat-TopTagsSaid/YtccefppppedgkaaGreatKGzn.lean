/- Joined: XTMachC. -/
import Derived.Test.YtccefppppedgkaaGreatKGzm
set_option linter.unusedVariables false
set_option linter.unusedSimpArgs false
set_option linter.unnecessarySimpa false
set_option maxRecDepth 100000
set_option maxHeartbeats 64000000
namespace Go.Proofs.YtccefppppedgkaaGreat
open Go.RowKit
section
attribute [local irreducible] AL AW RG Fin C Cd Cio AI AF AN
abbrev aPu (p:FE):AV:=.agg [bo p.on,bo p.shut,bo p.over,i64 p.inn,.ln (p.outs.map tI),i64 p.at_,i64 p.value]
theorem AgY (inn:Int) (outs:List Int) (hi:okI inn) (ho : ∀x∈outs,okI x) (hlen:outs.length≤17592186044415) (h:GP inn outs):Cd Tryz.prog 91 [i64 inn,.ln (outs.map tI)] (.tup [fPu ⟨true,false,false,inn,outs,0,0⟩,bo true]) []:=by
 have h0:=s1_ inn outs hi ho (by omega) true (by simp [h])
 dsimp only [stR,stL,cond_true] at h0
 have h0':=Cd.frz h0 0 rfl aB rfl;exact Cd.drop h0' rfl
theorem AgX (inn:Int) (outs:List Int) (hi:okI inn) (ho : ∀x∈outs,okI x) (hlen:outs.length≤17592186044415) (h : ¬GP inn outs):Cd Tryz.prog 91 [i64 inn,.ln (outs.map tI)] (.tup [.agg [bo false,bo false,bo false,i64 0,.nl,i64 0,i64 0],bo false]) []:=by
 have h0:=s1_ inn outs hi ho (by omega) false (by simp [h])
 exact h0
theorem s5_ (p:FE) (hlen:p.outs.length≤17592186044415) (hat:sI p.at_) (h:MD p=none):Cd Tryz.prog 80 [aPu p] (.tup [.agg [i64 0,i64 0,i64 0,bo false,.nl],bo false]) []:=by
 have h0:=i7_ p.on p.shut p.over p.inn p.at_ p.value p.outs hlen hat
 unfold MD at h
 cases e:nx p.on p.shut p.over p.inn p.outs p.at_ p.value with
 |no=>rw [e] at h0;exact h0
 |close a=>rw [e] at h;cases h
 |one k=>rw [e] at h;cases h
theorem s6_ (p:FE) (q:AT) (hlen:p.outs.length≤17592186044415) (hat:sI p.at_) (h:MD p=some q) :
  (q.cases=[]∧Cd Tryz.prog 80 [aPu p] (.tup [.agg [i64 q.kind,i64 q.arg,i64 q.value,bo q.dflt,.nl],bo true]) [])∨(q.cases.length=1∧Cd Tryz.prog 80 [aPu p] (.tup [fRq q,bo true]) []):=by
 have h0:=i7_ p.on p.shut p.over p.inn p.at_ p.value p.outs hlen hat
 unfold MD at h
 cases e:nx p.on p.shut p.over p.inn p.outs p.at_ p.value with
 |no=>rw [e] at h;cases h
 |close a =>
  rw [e] at h h0
  cases h
  exact .inl ⟨rfl,h0⟩
 |one k =>
  rw [e] at h h0
  cases h
  refine .inr ⟨rfl,?_⟩
  dsimp only [nxA,nxL,fRq,List.map_cons,List.map_nil] at h0 ⊢
  have h0':=Cd.frz h0 0 rfl aB rfl;exact Cd.drop h0' rfl
theorem SU (p:FE) (r:Rst) (hlen:p.outs.length≤17592186044415) (hat:sI p.at_):Cd Tryz.prog 88 [aPu p,aR r] (fPu (gotP p r)) []:=by
 have h0:=AuY p.on p.shut p.over p.inn p.at_ p.value p.outs r.seq r.cas r.code r.value hlen hat
 unfold gotP
 dsimp only
 generalize got p.on p.shut p.over p.at_ p.value p.outs.length r.code r.value=g at *
 have h0':=Cd.frz1 h0 0 rfl aB rfl;exact Cd.drop h0' rfl
abbrev aEv (e:EG):AV:=.agg [i64 e.kind,i64 e.thread,i64 e.req.kind,i64 e.req.arg,i64 e.req.value,bo e.req.dflt,.ln (e.req.cases.map tCs),i64 e.inn,.ln (e.outs.map tI)]
theorem AkH (c:AB) (s:Mc) (n th:Nat) (k:XK c s n th) (ht1:s.time+1≤1000000) (e:EG) (t:Nat) (het:e.thread=t) (ht:t<th) (hi:okI e.inn) (ho : ∀x∈e.outs,okI x) (hlen:e.outs.length≤17592186044415) :
  ∃r:Int,Cio Tryz.prog 53 [.ptr 0 0,aEv e] (XO c s n th) (i64 r) (XO c (pumpM c s t e.inn e.outs) n th):=by
 obtain ⟨hx,hp, -⟩:=k.get ht
 have e1:(s.tasks.map cTk).length=s.tasks.length:=fH _
 have e2:(s.pumps.map cPu).length=s.pumps.length:=fH _
 have htl:=k.tl
 have hpl:=k.pl
 have htm:=k.tm
 obtain ⟨ek,et,eq,ei,eo⟩:=e
 dsimp only at *
 subst het
 by_cases hso:GP ei eo
 ·have c1:=AgY ei eo hi ho hlen hso
  unfold pumpM XS AfK
  rw [fL hso]
  dsimp only
  generalize tkM s t=x at *
  generalize puM s t=p at *
  obtain ⟨on,shut,over,inn,outs,at_,value⟩:=p
  dsimp only [XO,XB,mL,mC,mR,AP] at *
  by_cases hk:c.kind=3
  ·by_cases hpc:x.pc=0
   ·rw [fR hk,fR hpc]
    cases on
    ·simp only [Bool.not_false,Bool.and_self,jL]
     refine ⟨0,?_⟩
     refine C8 ?_
     repeat' (first|(refine ZAL ?_;first|(refine kL 4643 rfl ?_;first|refine A_store_rp rfl rfl 145 _ _ rfl inf145 (by decide) rfl rfl aV rfl rfl rfl (ZbT rfl) eG qN ?_)|(refine kL 99 rfl ?_;first|refine A_store_rp rfl rfl 3 _ _ rfl inf3 (by decide) rfl rfl aV rfl rfl rfl (ZbT rfl) eG qN ?_)|refine uA ?_|refine uK (c1) ?_)|(refine ZRG ?_;first|(refine kR 4643 rfl ?_;first|refine R_store_rp rfl rfl 145 _ _ rfl inf145 (by decide) rfl rfl aV rfl rfl rfl (ZbT rfl) eG qN ?_)|refine uR ?_)|refine uC ?_|(first|refine AW.drawU (id:=2) mixed 0 qR ?_|refine AW.drawU (id:=5) mixed 0 qR ?_)|refine ZK2 (fun hc=>?_) (fun hc=>?_)|fail)
     all_goals exact A4 Tryz.results53
    ·simp only [Bool.not_true,lF,iC,jC]
     refine ⟨15,?_⟩
     refine C8 ?_
     repeat' (first|refine D2 ?_|refine ZK2 (fun hc=>?_) (fun hc=>?_)|fail)
     all_goals exact A4 Tryz.results53
   ·rw [fP hpc]
    simp only [lF,jA,iC,jC]
    refine ⟨15,?_⟩
    refine C8 ?_
    repeat' (first|refine D2 ?_|refine ZK2 (fun hc=>?_) (fun hc=>?_)|fail)
    all_goals exact A4 Tryz.results53
  ·rw [fP hk]
   simp only [lF,jA,iC,jC]
   refine ⟨15,?_⟩
   refine C8 ?_
   repeat' (first|refine D2 ?_|refine ZK2 (fun hc=>?_) (fun hc=>?_)|fail)
   all_goals exact A4 Tryz.results53
 ·have c1:=AgX ei eo hi ho hlen hso
  unfold pumpM XS
  rw [fM hso]
  dsimp only [XO,XB,mL,mC,mR] at *
  refine ⟨15,?_⟩
  refine C8 ?_
  repeat' (first|refine D2 ?_|refine ZK2 (fun hc=>?_) (fun hc=>?_)|fail)
  all_goals exact A4 Tryz.results53
theorem LY (c:AB) (s:Mc) (n th:Nat) (k:XK c s n th) (t:Nat) (ht:t<th):Cio Tryz.prog 85 [.ptr 0 0,i64 t] (XO c s n th) (.tup []) (XO c (goesM c s t) n th):=by
 obtain ⟨hx,hp, -⟩:=k.get ht
 have e1:(s.tasks.map cTk).length=s.tasks.length:=fH _
 have e2:(s.pumps.map cPu).length=s.pumps.length:=fH _
 have htl:=k.tl
 have hpl:=k.pl
 have hpb:=k.pu _ (fI hp)
 unfold goesM
 cases hn:MD (puM s t) with
 |none =>
  have c1:=s5_ _ (by omega) hpb.2 hn
  dsimp only
  generalize tkM s t=x at *
  generalize puM s t=p at *
  dsimp only [XO,XB,mL,mC,mR] at *
  refine ZEN Tryz.func85 Tryz.ntmps85 ?_
  repeat' (first|refine Gi ?_|refine uS 19 (fun hb=>?_) (fun hb=>?_)|refine ZK2 (fun hc=>?_) (fun hc=>?_)|fail)
  all_goals first|(exfalso;omega)|((first|exact Fin.q Tryz.results85 .nil []|refine Fin.q Tryz.results85 .nil [] (hr:=(.tupL .nil))|refine Fin.mkv (rs:=_) Tryz.results85 .nil [] (by decide) rfl ?_ ?_ ?_<;>repeat' (first|exact ZE1|refine ZE2 ?_ ?_|refine ZE3 ?_|exact ZE4|fail)))
 | some q =>
  have cg:=SU (puM s t) ⟨0,0,7,0⟩ (by omega) hpb.2
  have cy:=a2_ c s n th k t ht q
  have cn:=a1_ c s n th k t ht q
  rcases s6_ _ q (by omega) hpb.2 hn with ⟨hq,c1⟩|⟨hq,c1⟩
  all_goals
   have cn:=cn (by simp only [hq,gB];omega)
   obtain ⟨qk,qa,qv,qd,qc⟩:=q
   dsimp only at hq ⊢
   by_cases hpc:(tkM s t).pc=0
   ·rw [fL hpc]
    cases hb:FQ c s t ⟨qk,qa,qv,qd,qc⟩ with
    |some s' =>
     have c2:=cy s' hb
     clear cy cn
     try subst hq
     dsimp only
     generalize tkM s t=x at *
     generalize puM s t=p at *
     dsimp only [XO,XB,mL,mC,mR,List.map_nil] at *
     refine ZEN Tryz.func85 Tryz.ntmps85 ?_
     repeat' (first|(refine ZAL ?_;first|refine uA ?_|refine uK (c1) ?_|refine uI [0,1,2,3,4,5,6,7,8,9,10] (c2) ?_)|refine uR ?_|refine uC ?_|refine AW.drawU (id:=3) mixed 0 qR ?_|refine uS 19 (fun hb=>?_) (fun hb=>?_)|refine ZK2 (fun hc=>?_) (fun hc=>?_)|fail)
     all_goals first|(exfalso;omega)|((first|exact Fin.q Tryz.results85 .nil []|refine Fin.q Tryz.results85 .nil [] (hr:=(.tupL .nil))|refine Fin.mkv (rs:=_) Tryz.results85 .nil [] (by decide) rfl ?_ ?_ ?_<;>repeat' (first|exact ZE1|refine ZE2 ?_ ?_|refine ZE3 ?_|exact ZE4|fail)))
    |none =>
     obtain ⟨e,he,c2⟩:=cn hb
     clear cy cn
     try subst hq
     dsimp only
     generalize gotP (puM s t) ⟨0,0,7,0⟩=g at *
     generalize tkM s t=x at *
     generalize puM s t=p at *
     dsimp only [XO,XB,mL,mC,mR,List.map_nil] at *
     refine ZEN Tryz.func85 Tryz.ntmps85 ?_
     repeat' (first|(refine ZAL ?_;first|(refine kL 1027 rfl ?_;first|refine A_store_rp rfl rfl 32 _ _ rfl inf32 (by decide) rfl rfl aV rfl rfl rfl (ZbT rfl) (by first|exact map_set (f:=cPu) (x:=g)|exact qN) qN ?_)|refine uA ?_|refine uK (c1) ?_|refine uI [0,1,2,3,4,5,6,7,8,9,10] (c2) ?_)|(refine ZRG ?_;first|(refine kR 4643 rfl ?_;first|refine R_store_rp rfl rfl 145 _ _ rfl inf145 (by decide) rfl rfl aV rfl rfl rfl (ZbT rfl) (by first|exact map_set (f:=cPu) (x:=g)|exact qN) qN ?_)|refine uR ?_|refine AZ (cg) ?_)|refine uC ?_|refine AW.drawU (id:=3) mixed 0 qR ?_|refine uS 19 (fun hb=>?_) (fun hb=>?_)|refine ZK2 (fun hc=>?_) (fun hc=>?_)|fail)
     all_goals first|(exfalso;omega)|((first|exact Fin.q Tryz.results85 .nil []|refine Fin.q Tryz.results85 .nil [] (hr:=(.tupL .nil))|refine Fin.mkv (rs:=_) Tryz.results85 .nil [] (by decide) rfl ?_ ?_ ?_<;>repeat' (first|exact ZE1|refine ZE2 ?_ ?_|refine ZE3 ?_|exact ZE4|fail)))
   ·rw [fM hpc]
    clear cy cn
    generalize tkM s t=x at *
    generalize puM s t=p at *
    dsimp only [XO,XB,mL,mC,mR] at *
    refine ZEN Tryz.func85 Tryz.ntmps85 ?_
    repeat' (first|refine Gi ?_|refine uS 19 (fun hb=>?_) (fun hb=>?_)|refine ZK2 (fun hc=>?_) (fun hc=>?_)|fail)
    all_goals exact A9 Tryz.results85
end
end Go.Proofs.YtccefppppedgkaaGreat
