/- Joined: XTTopJ. -/
import Derived.Test.YtccefppppedgkaaGreatKHzy
set_option linter.unusedVariables false
set_option linter.unusedSimpArgs false
set_option linter.unnecessarySimpa false
set_option maxRecDepth 100000
set_option maxHeartbeats 64000000
namespace Go.Proofs.YtccefppppedgkaaGreat
open Go.RowKit
section
attribute [local irreducible] AL AW RG Fin C Cd Cio AI AF AO
def tUs (l:List Int):List Tr:=[.lst (l.map tU)]
structure TOs where
 q:Nat
 k:Nat
 n:Nat
theorem AbW (c:AB) (l:List DB) (hs:c.start.length≤1152921504606846976) (he : ∀e∈l,okE e):Cd Tryz.prog 4 [fCf c,.ln (l.map tEv)] (bo true) []:=by
 have c1:=UQ c hs
 have aw:=XL
 have e1:(l.map tEv).length=l.length:=fN _
 cases hsm:LT c
 ·rw [hsm] at c1
  refine ZEN Tryz.func4 Tryz.ntmps4 ?_
  repeat' (first|refine He ?_|refine uS 17 (fun hb=>?_) (fun hb=>?_)|refine uS 55 (fun hb=>?_) (fun hb=>?_)|refine uS 60 (fun hb=>?_) (fun hb=>?_)|refine uS 84 (fun hb=>?_) (fun hb=>?_)|refine ZK2 (fun hc=>?_) (fun hc=>?_)|fail)
  all_goals exact A3 Tryz.results4
 ·rw [hsm] at c1
  by_cases hl:700<l.length
  ·refine ZEN Tryz.func4 Tryz.ntmps4 ?_
   repeat' (first|refine He ?_|refine uS 17 (fun hb=>?_) (fun hb=>?_)|refine uS 55 (fun hb=>?_) (fun hb=>?_)|refine uS 60 (fun hb=>?_) (fun hb=>?_)|refine uS 84 (fun hb=>?_) (fun hb=>?_)|refine ZK2 (fun hc=>?_) (fun hc=>?_)|fail)
   all_goals exact A3 Tryz.results4
  ·obtain ⟨f,h4, -⟩:=UA hsm
   have hf:=f.facts
   have c2:=NY f (FG f)
   have cz:=RE c hs
   have hth:(thrN c:Int)=c.threads:=by unfold thrN;omega
   have hZ : ∀q,q≤l.length→Mz c (evM c l q) q:=fun q hq=>ApV f hq
   have hT : ∀q,q≤l.length→(evM c l q).turns.length≤1000:=fun q hq=>by have:=(hZ q hq).q.ms.ul;omega
   have hrl : ∀q,(FK c (evM c l q).turns).length=(evM c l q).turns.length+1:=fun q=>by unfold FK;rw [fN,lE]
   have cD : ∀q e,q<l.length→l[q]? = some e → ∃r:Int,Cio Tryz.prog 13 [.ptr 0 0,aEv e] (XO c (evM c l q) (nC c) (thrN c)) (i64 r) (XO c (evM c l (q+1)) (nC c) (thrN c)):=fun q e hq hx=>by
    rw [b_ hx]
    exact LK f (by omega) (hZ q (by omega)).q (by omega) e (he e (fO hx))
   have cT : ∀q,q≤l.length→Cio Tryz.prog 16 [.ptr 0 0] (XO c (evM c l q) (nC c) (thrN c)) (.t (.lst ((evM c l q).turns.map cTn))) (XO c (evM c l q) (nC c) (thrN c)):=fun q hq=>j4_ f (hZ q hq) (by omega) _ _ _ _
   have cR : ∀q,q≤l.length→Cio Tryz.prog 15 [.ptr 0 0] (XO c (evM c l q) (nC c) (thrN c)) (fU (IB c (evM c l q).turns (evM c l q).turns.length)) (XO c (evM c l q) (nC c) (thrN c)):=fun q hq=>AwG f (hZ q hq) (by omega) _ _ _ _
   have cK : ∀(q:Nat) (t:Int) (x:AC),q≤l.length→0≤t→(evM c l q).tasks[t.toNat]? = some x→Cio Tryz.prog 17 [.ptr 0 0,i64 t] (XO c (evM c l q) (nC c) (thrN c)) (fTk x) (XO c (evM c l q) (nC c) (thrN c))∧x.buf.length≤1000000∧((x.buf.length:Int)=sizeC c→x.buf∈FK c (evM c l q).turns):=fun q t x hq ht hx=>by
    refine ⟨?_,?_,fun h=>AoN (hZ q hq) hx h⟩
    ·have h:=NZ f (hZ q hq) (by omega) (evM c l q).m.log.length (evM c l q).m.cnt.length (evM c l q).notes.length (evM c l q).turns.length hx
     rw [mT ht] at h
     exact h
    have:=((hZ q hq).l.2 t.toNat x hx).bf
    have:=(hZ q hq).q.ll
    omega
   have cL : ∀q r,q≤l.length→r∈FK c (evM c l q).turns→r.length≤1000:=fun q r hq hr=>by have:=AiZ (hZ q hq) hr;omega
   have cE : ∀q t,q≤l.length→t<thrN c → ∃x,(evM c l q).tasks[t]? = some x:=fun q t hq ht=>⟨_,ZgE (by have:=(FH f (hZ q hq) (by omega)).2.1;omega)⟩
   have cS : ∀q e,l[q]? = some e→((evM c l (q+1)).turns.length=(evM c l q).turns.length∧FK c (evM c l (q+1)).turns=FK c (evM c l q).turns)∨((evM c l (q+1)).turns.length=(evM c l q).turns.length+1∧FK c (evM c l (q+1)).turns=FK c (evM c l q).turns++[IB c (evM c l (q+1)).turns (evM c l (q+1)).turns.length]):=fun q e hx=>by
    rw [b_ hx]
    rcases AjD c (evM c l q) e with h|⟨v,h⟩
    ·rw [h];exact .inl ⟨rfl,rfl⟩
    ·rw [h];exact .inr ⟨fP,AbJ c _ v⟩
   have h0:DC c=evM c l 0:=rfl
   have h1:FK c (evM c l 0).turns=[IB c (evM c l 0).turns (evM c l 0).turns.length]:=rfl
   rw [h0] at c2
   clear h0 hZ
   generalize evM c l=ev at *
   generalize hrr:(fun q=>IB c (ev q).turns (ev q).turns.length)=rn at *
   have hrr' : ∀q,IB c (ev q).turns (ev q).turns.length=rn q:=fun q=>congrFun hrr q
   simp only [hrr'] at *
   generalize hrc:(fun q=>FK c (ev q).turns)=rc at *
   have hrc' : ∀q,FK c (ev q).turns=rc q:=fun q=>congrFun hrc q
   simp only [hrc'] at *
   clear hrr hrr' hrc hrc'
   generalize sizeC c=z at *
   generalize nC c=n at *
   generalize thrN c=th at *
   dsimp only [XO,XB,mL,mC,mR] at *
   have c3:=cR 0 (fX _)
   refine ZEN Tryz.func4 Tryz.ntmps4 ?_
   repeat' (first|(refine ZAL ?_;first|(refine kL 12 rfl ?_;first|refine CN rfl rfl _ _ 41 rfl ud41 inf39 rfl rfl rfl cY aA qB qB (by first|exact app_map aE|exact app_one (f:=tUs) (x:=rn 0) aE|exact qN) qN qS ?_|refine BD rfl rfl _ _ 41 rfl ud41 inf39 rfl rfl aA qB qB (by first|exact (rfl:_=List.map tUs [rn 0])|exact qN) (.push qL qN) qS ?_|refine A_append_nlsub rfl rfl _ _ 41 rfl ud41 inf39 rfl rfl rfl rfl aJ qB qB iU.symm (.push qL qN) ?_)|(refine kL 1327 rfl ?_;first|refine A_lit rfl rfl 41 1 _ rfl ud41 inf39 (.cons rfl .nil) (els:=[[_]]) rfl (by first|exact (rfl:_=List.map tUs [rn 0])|exact qN) rfl (gB rfl) (ZbT rfl) (ZbT rfl) (.push qL qN) ?_)|(refine kL 1091 rfl ?_;first|refine A_store_rp rfl rfl 34 _ _ rfl c2_ (by decide) rfl rfl aI rfl rfl rfl (ZbT rfl) (by first|exact map_set (f:=tUs) (x:=rn 0)|exact qN) qN ?_)|refine uA ?_|refine uK (c1) ?_|refine uK (c2) ?_|refine uI [1,2,3,4,5,6,7,8,9,10,11] (c3) ?_)|refine uC ?_|refine uS 17 (fun hb=>?_) (fun hb=>?_)|refine uS 55 (fun hb=>?_) (fun hb=>?_)|refine uS 60 (fun hb=>?_) (fun hb=>?_)|refine uS 84 (fun hb=>?_) (fun hb=>?_)|refine ZK2 (fun hc=>?_) (fun hc=>?_)|fail)
   all_goals try exact ZE5
   refine AW.loopP (fun (x:TOs)=>x.q≤l.length∧x.n=(rc x.q).length) (fun (x:TOs)=>(pu (pu (pu (pu (pu (pu (fun _=>.any) 2 (.ptr 0 0)) 5 (.ptr 1 0)) 6 (.sl 12 x.k x.n)) 30 (.ln (l.map tEv))) 31 (i64 (l.map tEv).length)) 32 (i64 x.q))) (fun (x:TOs)=>[.box 24 [i64 c.kind,i64 c.threads,i64 c.chans,i64 c.cap,i64 c.nodes,i64 c.retire,i64 c.patience,i64 c.tags,i64 c.seqs,i64 c.gens,.t (.lst (c.start.map tI))],.box 114 [i64 c.kind,i64 c.threads,i64 c.chans,i64 c.cap,i64 c.nodes,i64 c.retire,i64 c.patience,i64 c.tags,i64 c.seqs,i64 c.gens,.t (.lst (c.start.map tI)),.ptr 2 0,.sl 6 0 th,.sl 7 0 th,.sl 8 (ev x.q).notes.length (ev x.q).notes.length,.sl 9 (ev x.q).turns.length (ev x.q).turns.length,.sl 10 0 th,.sl 11 0 th,i64 (ev x.q).time],.box 135 [.sl 3 0 n,.sl 4 (ev x.q).m.log.length (ev x.q).m.log.length,.sl 5 (ev x.q).m.cnt.length (ev x.q).m.cnt.length,bo true],.row 0 46 1 ((ev x.q).m.w.map tU),.row (ev x.q).m.log.length 83 7 ((ev x.q).m.log.map tAc),.row (ev x.q).m.cnt.length 3 1 ((ev x.q).m.cnt.map tI),.row 0 55 34 ((ev x.q).tasks.map cTk),.row 0 145 7 ((ev x.q).pumps.map cPu),.row (ev x.q).notes.length 75 13 ((ev x.q).notes.map cNt),.row (ev x.q).turns.length 63 3 ((ev x.q).turns.map cTn),.row 0 3 1 ((ev x.q).steps.map tI),.row 0 3 1 ((ev x.q).most.map tI),.row x.k 39 1 ((rc x.q).map tUs)]) (fun (x:TOs)=>l.length-x.q) (⟨0,0,1⟩) ?_ ?_ ?_
   ·exact ⟨fX _,by dsimp only;rw [h1];rfl⟩
   ·dsimp only
    rw [h1]
    refine Wk.cut2 13 (ZbT rfl) rfl ?_
    repeat' (first|exact Fk.nil|refine Fk.pu ?_ ?_|rfl)
   ·rintro ⟨q,k,n'⟩ ⟨hq,hn⟩
    dsimp only at hq hn ⊢
    have e2:((rc q).map tUs).length=n':=by rw [fN,hn]
    have hq1:=hT q hq
    have hq2:=hrl q
    by_cases hi:q<l.length
    ·obtain ⟨e,hx⟩ : ∃e,l[q]? = some e:=⟨_,ZgE hi⟩
     obtain ⟨r,d1⟩:=cD q e hi hx
     have d2:=cT q hq
     have d3:=cT (q+1) hi
     have d4:=cR (q+1) hi
     have d5:=fun t x ht hx=>cK (q+1) t x hi ht hx
     have d6:=fun t=>cE (q+1) t hi
     have d11:=fun r=>cL (q+1) r hi
     have d7:=hrl (q+1)
     have e3:((ev q).turns.map cTn).length=(ev q).turns.length:=fN _
     have e4:((ev (q+1)).turns.map cTn).length=(ev (q+1)).turns.length:=fN _
     have hS:=cS q e hx
     obtain ⟨ek,et,⟨rk,ra,rv,rd,rq⟩,ei,eo⟩:=e
     generalize hx0:(ev (q+1)).tasks.getD et.toNat AK=x
     have hgx:0≤et→et<(th:Int)→(ev (q+1)).tasks[et.toNat]? = some x:=fun h0 h1=>by
      obtain ⟨y,hy⟩:=d6 et.toNat (by omega)
      rw [←hx0,fQ,hy];rfl
     have dK:=fun h0 h1=>(d5 et x h0 (hgx h0 h1)).1
     have dB:=fun h0 h1=>(d5 et x h0 (hgx h0 h1)).2
     have e6:(x.buf.map tU).length=x.buf.length:=fN _
     clear hx0 hgx d6 d5
     rcases hS with ⟨g1,g2⟩|⟨g1,g2⟩
     ·have e5:=congrArg List.length g2
      repeat' (first|(refine ZAL ?_;first|refine Bh ?_|refine C0 ?_|refine Ez ?_|refine uA ?_|(first|refine uI [1,2,3,4,5,6,7,8,9,10,11] (d2) ?_|refine uI [1,2,3,4,5,6,7,8,9,10,11] (d3) ?_)|refine uI [1,2,3,4,5,6,7,8,9,10,11] (d1) ?_|refine uK (cz) ?_)|refine uC ?_|refine uS 17 (fun hb=>?_) (fun hb=>?_)|refine uS 55 (fun hb=>?_) (fun hb=>?_)|refine uS 60 (fun hb=>?_) (fun hb=>?_)|refine uS 84 (fun hb=>?_) (fun hb=>?_)|refine ZK2 (fun hc=>?_) (fun hc=>?_)|fail)
      all_goals first|(exfalso;omega)|(refine ⟨⟨q+1,k,n'⟩,⟨by dsimp only;omega,by dsimp only;omega⟩,by dsimp only;omega,?_⟩;dsimp only;rw [g2];exact Wk.cq 13)|skip
      have k1:0≤et∧et<(th:Int)∧(x.buf.length:Int)=z:=by omega
      obtain ⟨k1,k2,k3⟩:=k1
      have hin:=(dB k1 k2).2 k3
      generalize hR:rc (q+1)=R at *
      have e7:(R.map tUs).length=n':=by rw [fN];omega
      have e8:R.length=n':=by omega
      have e9:(rc q).map tUs=R.map tUs:=by rw [g2];try simp
      try rw [e9]
      have f0:decide (x.buf∈R.take 0)=false:=rfl
      have fS : ∀(j:Nat) (r:List Int),R[j]? = some r→decide (x.buf∈R.take (j+1))=(decide (x.buf∈R.take j)||decide (r=x.buf)):=fun j r hj=>by
       rw [iB,hj, ←Bool.decide_or]
       refine kJ.2 ?_
       rw [gQ]
       exact or_congr Iff.rfl ⟨fun h=>(iN.1 h).symm,fun h=>iN.2 h.symm⟩
      have fE:decide (x.buf∈R.take R.length)=true:=by rw [jQ];exact fW hin
      generalize hfd:(fun j:Nat=>decide (x.buf∈R.take j))=fd at *
      have hfd' : ∀j:Nat,decide (x.buf∈R.take j)=fd j:=fun j=>congrFun hfd j
      simp only [hfd'] at f0 fS fE
      clear hfd hfd'
      refine AW.loopP (fun (j:Nat)=>j≤R.length) (fun (j:Nat)=>(pu (pu (pu (pu (pu (pu (pu (pu (pu (pu (pu (fun _=>.any) 2 (.ptr 0 0)) 5 (.ptr 1 0)) 6 (.sl 12 k n')) 10 (.t (.lst (x.buf.map tU)))) 11 (bo (fd j))) 30 (.ln (l.map tEv))) 31 (i64 (l.map tEv).length)) 32 (i64 q)) 77 (.sl 12 k n')) 78 (i64 (n':Nat))) 79 (i64 j))) (fun (j:Nat)=>[.box 24 [i64 c.kind,i64 c.threads,i64 c.chans,i64 c.cap,i64 c.nodes,i64 c.retire,i64 c.patience,i64 c.tags,i64 c.seqs,i64 c.gens,.t (.lst (c.start.map tI))],.box 114 [i64 c.kind,i64 c.threads,i64 c.chans,i64 c.cap,i64 c.nodes,i64 c.retire,i64 c.patience,i64 c.tags,i64 c.seqs,i64 c.gens,.t (.lst (c.start.map tI)),.ptr 2 0,.sl 6 0 th,.sl 7 0 th,.sl 8 (ev (q+1)).notes.length (ev (q+1)).notes.length,.sl 9 (ev (q+1)).turns.length (ev (q+1)).turns.length,.sl 10 0 th,.sl 11 0 th,i64 (ev (q+1)).time],.box 135 [.sl 3 0 n,.sl 4 (ev (q+1)).m.log.length (ev (q+1)).m.log.length,.sl 5 (ev (q+1)).m.cnt.length (ev (q+1)).m.cnt.length,bo true],.row 0 46 1 ((ev (q+1)).m.w.map tU),.row (ev (q+1)).m.log.length 83 7 ((ev (q+1)).m.log.map tAc),.row (ev (q+1)).m.cnt.length 3 1 ((ev (q+1)).m.cnt.map tI),.row 0 55 34 ((ev (q+1)).tasks.map cTk),.row 0 145 7 ((ev (q+1)).pumps.map cPu),.row (ev (q+1)).notes.length 75 13 ((ev (q+1)).notes.map cNt),.row (ev (q+1)).turns.length 63 3 ((ev (q+1)).turns.map cTn),.row 0 3 1 ((ev (q+1)).steps.map tI),.row 0 3 1 ((ev (q+1)).most.map tI),.row k 39 1 (R.map tUs)]) (fun (j:Nat)=>R.length-j) (0) ?_ ?_ ?_
      ·exact fX _
      ·rw [f0]
       refine Wk.cut2 13 (ZbT rfl) rfl ?_
       repeat' (first|exact Fk.nil|refine Fk.pu ?_ ?_|rfl)
      ·intro j hj
       by_cases hjn:j<R.length
       ·obtain ⟨r',hr⟩ : ∃r,R[j]? = some r:=⟨_,ZgE hjn⟩
        have hfS:=fS j r' hr
        have cw:=x8_ r' x.buf (by have:=d11 r' (fO hr);omega)
        generalize decide (r'=x.buf)=bb at hfS cw
        have hA:fd j=true→fd (j+1)=true:=fun h=>by rw [hfS,h];rfl
        have hBf:fd j=false→fd (j+1)=bb:=fun h=>by rw [hfS,h];rfl
        clear hfS
        repeat' (first|refine F0 ?_|refine uS 17 (fun hb=>?_) (fun hb=>?_)|refine uS 55 (fun hb=>?_) (fun hb=>?_)|refine uS 60 (fun hb=>?_) (fun hb=>?_)|refine uS 84 (fun hb=>?_) (fun hb=>?_)|refine ZK2 (fun hc=>?_) (fun hc=>?_)|fail)
        all_goals try exact ZE5
        all_goals
         refine ⟨j+1,by omega,by omega,?_⟩
         first|rw [hA dG]|rw [hBf dG]
         refine Wk.cut2 13 (ZbT rfl) rfl ?_
         repeat' (first|exact Fk.nil|refine Fk.pu ?_ ?_|rfl)
       ·obtain rfl:j=R.length:=by omega
        rw [fE]
        repeat' (first|(refine ZAL ?_;first|refine Bh ?_|refine C0 ?_|refine uA ?_)|refine uC ?_|refine uS 17 (fun hb=>?_) (fun hb=>?_)|refine uS 55 (fun hb=>?_) (fun hb=>?_)|refine uS 60 (fun hb=>?_) (fun hb=>?_)|refine uS 84 (fun hb=>?_) (fun hb=>?_)|refine ZK2 (fun hc=>?_) (fun hc=>?_)|fail)
        all_goals try exact ZE5
        refine ⟨⟨q+1,k,n'⟩,⟨by dsimp only;omega,by dsimp only;rw [hR];omega⟩,by dsimp only;omega,?_⟩
        dsimp only
        rw [hR]
        refine Wk.cut2 13 (ZbT rfl) rfl ?_
        repeat' (first|exact Fk.nil|refine Fk.pu ?_ ?_|rfl)
     ·have e5:=congrArg List.length g2
      rw [fP,gT] at e5
      repeat' (first|(refine ZAL ?_;first|(refine kL 12 rfl ?_;first|refine CN rfl rfl _ _ 41 rfl ud41 inf39 rfl rfl rfl cY aA qB qB (by first|exact app_map aE|exact app_one (f:=tUs) (x:=rn (q+1)) aE|exact qN) qN qS ?_|refine BD rfl rfl _ _ 41 rfl ud41 inf39 rfl rfl aA qB qB (by first|exact (rfl:_=List.map tUs [rn (q+1)])|exact qN) (.push qL qN) qS ?_|refine A_append_nlsub rfl rfl _ _ 41 rfl ud41 inf39 rfl rfl rfl rfl aJ qB qB iU.symm (.push qL qN) ?_)|(refine kL 1327 rfl ?_;first|refine A_lit rfl rfl 41 1 _ rfl ud41 inf39 (.cons rfl .nil) (els:=[[_]]) rfl (by first|exact (rfl:_=List.map tUs [rn (q+1)])|exact qN) rfl (gB rfl) (ZbT rfl) (ZbT rfl) (.push qL qN) ?_)|(refine kL 1091 rfl ?_;first|refine A_store_rp rfl rfl 34 _ _ rfl c2_ (by decide) rfl rfl bC rfl rfl rfl (ZbT rfl) (by first|exact map_set (f:=tUs) (x:=rn (q+1))|exact qN) qN ?_)|refine Ez ?_|refine uA ?_|refine uI [1,2,3,4,5,6,7,8,9,10,11] (d4) ?_|(first|refine uI [1,2,3,4,5,6,7,8,9,10,11] (d2) ?_|refine uI [1,2,3,4,5,6,7,8,9,10,11] (d3) ?_)|refine uI [1,2,3,4,5,6,7,8,9,10,11] (d1) ?_|refine uK (cz) ?_)|refine uC ?_|refine uS 17 (fun hb=>?_) (fun hb=>?_)|refine uS 55 (fun hb=>?_) (fun hb=>?_)|refine uS 60 (fun hb=>?_) (fun hb=>?_)|refine uS 84 (fun hb=>?_) (fun hb=>?_)|refine ZK2 (fun hc=>?_) (fun hc=>?_)|fail)
      all_goals first|(exfalso;omega)|(refine ⟨⟨q+1,(k+1),(n'+1)⟩,⟨by dsimp only;omega,by dsimp only;omega⟩,by dsimp only;omega,?_⟩;dsimp only;rw [g2];exact Wk.cq 13)|skip
      have k1:0≤et∧et<(th:Int)∧(x.buf.length:Int)=z:=by omega
      obtain ⟨k1,k2,k3⟩:=k1
      have hin:=(dB k1 k2).2 k3
      generalize hR:rc (q+1)=R at *
      have e7:(R.map tUs).length=(n'+1):=by rw [fN];omega
      have e8:R.length=(n'+1):=by omega
      have e9:(rc q++[rn (q+1)]).map tUs=R.map tUs:=by rw [g2];try simp
      try rw [e9]
      have f0:decide (x.buf∈R.take 0)=false:=rfl
      have fS : ∀(j:Nat) (r:List Int),R[j]? = some r→decide (x.buf∈R.take (j+1))=(decide (x.buf∈R.take j)||decide (r=x.buf)):=fun j r hj=>by
       rw [iB,hj, ←Bool.decide_or]
       refine kJ.2 ?_
       rw [gQ]
       exact or_congr Iff.rfl ⟨fun h=>(iN.1 h).symm,fun h=>iN.2 h.symm⟩
      have fE:decide (x.buf∈R.take R.length)=true:=by rw [jQ];exact fW hin
      generalize hfd:(fun j:Nat=>decide (x.buf∈R.take j))=fd at *
      have hfd' : ∀j:Nat,decide (x.buf∈R.take j)=fd j:=fun j=>congrFun hfd j
      simp only [hfd'] at f0 fS fE
      clear hfd hfd'
      refine AW.loopP (fun (j:Nat)=>j≤R.length) (fun (j:Nat)=>(pu (pu (pu (pu (pu (pu (pu (pu (pu (pu (pu (fun _=>.any) 2 (.ptr 0 0)) 5 (.ptr 1 0)) 6 (.sl 12 (k+1) (n'+1))) 10 (.t (.lst (x.buf.map tU)))) 11 (bo (fd j))) 30 (.ln (l.map tEv))) 31 (i64 (l.map tEv).length)) 32 (i64 q)) 77 (.sl 12 (k+1) (n'+1))) 78 (i64 ((n'+1):Nat))) 79 (i64 j))) (fun (j:Nat)=>[.box 24 [i64 c.kind,i64 c.threads,i64 c.chans,i64 c.cap,i64 c.nodes,i64 c.retire,i64 c.patience,i64 c.tags,i64 c.seqs,i64 c.gens,.t (.lst (c.start.map tI))],.box 114 [i64 c.kind,i64 c.threads,i64 c.chans,i64 c.cap,i64 c.nodes,i64 c.retire,i64 c.patience,i64 c.tags,i64 c.seqs,i64 c.gens,.t (.lst (c.start.map tI)),.ptr 2 0,.sl 6 0 th,.sl 7 0 th,.sl 8 (ev (q+1)).notes.length (ev (q+1)).notes.length,.sl 9 (ev (q+1)).turns.length (ev (q+1)).turns.length,.sl 10 0 th,.sl 11 0 th,i64 (ev (q+1)).time],.box 135 [.sl 3 0 n,.sl 4 (ev (q+1)).m.log.length (ev (q+1)).m.log.length,.sl 5 (ev (q+1)).m.cnt.length (ev (q+1)).m.cnt.length,bo true],.row 0 46 1 ((ev (q+1)).m.w.map tU),.row (ev (q+1)).m.log.length 83 7 ((ev (q+1)).m.log.map tAc),.row (ev (q+1)).m.cnt.length 3 1 ((ev (q+1)).m.cnt.map tI),.row 0 55 34 ((ev (q+1)).tasks.map cTk),.row 0 145 7 ((ev (q+1)).pumps.map cPu),.row (ev (q+1)).notes.length 75 13 ((ev (q+1)).notes.map cNt),.row (ev (q+1)).turns.length 63 3 ((ev (q+1)).turns.map cTn),.row 0 3 1 ((ev (q+1)).steps.map tI),.row 0 3 1 ((ev (q+1)).most.map tI),.row (k+1) 39 1 (R.map tUs)]) (fun (j:Nat)=>R.length-j) (0) ?_ ?_ ?_
      ·exact fX _
      ·rw [f0]
       refine Wk.cut2 13 (ZbT rfl) rfl ?_
       repeat' (first|exact Fk.nil|refine Fk.pu ?_ ?_|rfl)
      ·intro j hj
       by_cases hjn:j<R.length
       ·obtain ⟨r',hr⟩ : ∃r,R[j]? = some r:=⟨_,ZgE hjn⟩
        have hfS:=fS j r' hr
        have cw:=x8_ r' x.buf (by have:=d11 r' (fO hr);omega)
        generalize decide (r'=x.buf)=bb at hfS cw
        have hA:fd j=true→fd (j+1)=true:=fun h=>by rw [hfS,h];rfl
        have hBf:fd j=false→fd (j+1)=bb:=fun h=>by rw [hfS,h];rfl
        clear hfS
        repeat' (first|refine F0 ?_|refine uS 17 (fun hb=>?_) (fun hb=>?_)|refine uS 55 (fun hb=>?_) (fun hb=>?_)|refine uS 60 (fun hb=>?_) (fun hb=>?_)|refine uS 84 (fun hb=>?_) (fun hb=>?_)|refine ZK2 (fun hc=>?_) (fun hc=>?_)|fail)
        all_goals try exact ZE5
        all_goals
         refine ⟨j+1,by omega,by omega,?_⟩
         first|rw [hA dG]|rw [hBf dG]
         refine Wk.cut2 13 (ZbT rfl) rfl ?_
         repeat' (first|exact Fk.nil|refine Fk.pu ?_ ?_|rfl)
       ·obtain rfl:j=R.length:=by omega
        rw [fE]
        repeat' (first|(refine ZAL ?_;first|refine Bh ?_|refine C0 ?_|refine uA ?_)|refine uC ?_|refine uS 17 (fun hb=>?_) (fun hb=>?_)|refine uS 55 (fun hb=>?_) (fun hb=>?_)|refine uS 60 (fun hb=>?_) (fun hb=>?_)|refine uS 84 (fun hb=>?_) (fun hb=>?_)|refine ZK2 (fun hc=>?_) (fun hc=>?_)|fail)
        all_goals try exact ZE5
        refine ⟨⟨q+1,(k+1),(n'+1)⟩,⟨by dsimp only;omega,by dsimp only;rw [hR];omega⟩,by dsimp only;omega,?_⟩
        dsimp only
        rw [hR]
        refine Wk.cut2 13 (ZbT rfl) rfl ?_
        repeat' (first|exact Fk.nil|refine Fk.pu ?_ ?_|rfl)
    ·obtain rfl:q=l.length:=by omega
     repeat' (first|(refine ZAL ?_;first|refine Bh ?_|refine C0 ?_|refine uA ?_|refine uK (aw) ?_)|refine uC ?_|refine uS 17 (fun hb=>?_) (fun hb=>?_)|refine uS 55 (fun hb=>?_) (fun hb=>?_)|refine uS 60 (fun hb=>?_) (fun hb=>?_)|refine uS 84 (fun hb=>?_) (fun hb=>?_)|refine ZK2 (fun hc=>?_) (fun hc=>?_)|fail)
     all_goals exact A3 Tryz.results4
end
end Go.Proofs.YtccefppppedgkaaGreat
