/- Joined: XTMachD, XTObsC, XTTopA, XTMachE, XTTopB, XTTopC, XTTopE. -/
import Derived.Test.YtccefppppedgkaaGreatKHzr
import Derived.Test.YtccefppppedgkaaGreatKHzs
import Derived.Test.YtccefppppedgkaaGreatKHzt
import Derived.Test.YtccefppppedgkaaGreatKHzu
import Derived.Test.YtccefppppedgkaaGreatKHzv
set_option linter.unusedVariables false
set_option linter.unusedSimpArgs false
set_option linter.unnecessarySimpa false
set_option maxRecDepth 100000
set_option maxHeartbeats 64000000
namespace Go.Proofs.YtccefppppedgkaaGreat
open Go.RowKit
section
attribute [local irreducible] AL AW RG Fin C Cd Cio AI AF AO
theorem AmJ (c:AB) (s:Mc) (n th:Nat) (k:XK c s n th) (ht1:s.time+1≤1000000) (t:Nat) (ht:t<th) (k2:XK c (goesM c (AP s) t) n th) :
  Cio Tryz.prog 51 [.ptr 0 0,i64 t] (XO c s n th) (i64 0) (XO c (pickM c s t) n th):=by
 by_cases h0:(tkM (goesM c (AP s) t) t).pc=0
 ·have htm:=k.tm
  have c1:=MQ c (AP s) n th (k.tick ht1) t ht
  unfold pickM
  dsimp only
  generalize goesM c (AP s) t=s1 at *
  obtain ⟨hx,hp,hst,hmo⟩:=k2.get ht
  have e1:(s1.tasks.map cTk).length=s1.tasks.length:=fN _
  have htl:=k2.tl
  rw [fR h0]
  generalize tkM s1 t=x at *
  unfold AP at c1
  dsimp only [XO,XB,mL,mC,mR] at *
  refine Ad ?_
  repeat' (first|(refine ZAL ?_;first|refine uA ?_|refine uI [0,1,2,3,4,5,6,7,8,9,10] (c1) ?_)|(refine ZRG ?_;first|(refine kR 1359 rfl ?_;first|refine R_lit rfl rfl 42 1 _ rfl ud42 inf63 (.cons rfl .nil) (els:=[[_,_,_]]) rfl bF rfl (gB rfl) (ZbT rfl) (ZbT rfl) qh qN ?_)|refine uR ?_)|refine uC ?_|refine Db ?_|refine uS 124 (fun hb=>?_) (fun hb=>?_)|refine ZK2 (fun hc=>?_) (fun hc=>?_)|fail)
  all_goals exact A3 Tryz.results51
 ·cases hW:(tkM (goesM c (AP s) t) t).waits
  ·cases hO:(stepT c t (tkM (goesM c (AP s) t) t) (goesM c (AP s) t).m).won
   ·exact AgK c s n th k ht1 t ht k2 h0 hW hO
   ·exact AgL c s n th k ht1 t ht k2 h0 hW hO
  ·cases hO:(stepT c t (tkM (goesM c (AP s) t) t) (goesM c (AP s) t).m).won
   ·exact AgM c s n th k ht1 t ht k2 h0 hW hO
   ·exact AgN c s n th k ht1 t ht k2 h0 hW hO
theorem AwF (c:AB) (s:Mc) (n th vl vc vn vu:Nat) (f:Okc c) (hs:c.start.length≤1152921504606846976) (hw:s.m.w.length=n) (hnn:(n:Int)=totL c) (hwu:okU s.m.w) (hr:0≤rdI (ld s.m 0)∧rdI (ld s.m 0)<nodesL c) :
  Cio Tryz.prog 15 [.ptr 0 0] (XV c s n th vl vc vn vu) (fU (AnK c s)) (XV c s n th vl vc vn vu):=by
 have hf:=f.facts
 have hnl:=DQ f.ok
 have hnd:=CI f hr.1 hr.2 (k:=0) (by omega) (by omega)
 have hnd2:=CI f hr.1 hr.2 (k:=sizeC c) (by omega) (by omega)
 have hbig:=f.big
 have c1:=JH c s n th vl vc vn vu
 have c2:=e_ s.m n vl vc hw (by omega) 0 (by omega)
 have c3:=n7_ (ld s.m 0) (MN hwu 0).1 (by have:=MN hwu 0;omega)
 have c4:=MC f hs hr.1 (by omega)
 have c5:=MC f hs (i:=rdI (ld s.m 0)+1) (by omega) (by omega)
 have eN:aNode c (rdI (ld s.m 0)+1)=aNode c (rdI (ld s.m 0))+1+sizeC c:=by unfold aNode;rw [mP];omega
 rw [eN] at c5
 have hrec:AnK c s=(s.m.w.drop (aNode c (rdI (ld s.m 0))+1).toNat).take (sizeC c).toNat:=rfl
 have hpk:=fun (a:Int) (ha:0≤a∧a<n)=>e_ s.m n vl vc hw (by omega) a ha
 generalize rdI (ld s.m 0)=ix at *
 generalize aNode c ix=A at *
 generalize rdT (ld s.m 0)=gx at *
 rw [hrec]
 have hlen:((s.m.w.drop (A+1).toNat).take (sizeC c).toNat).length=(sizeC c).toNat:=by rw [fY,gJ];omega
 have hget : ∀q:Nat,(q:Int)<sizeC c→((s.m.w.drop (A+1).toNat).take (sizeC c).toNat)[q]? = some (ld s.m (A+1+q)):=fun q hq=>by
  rw [List.getElem?_take_of_lt (by omega),gK]
  unfold ld
  rw [fQ,show (A+1+(q:Int)).toNat=(A+1).toNat+q by omega,ZgE (by omega)]
  rfl
 generalize (s.m.w.drop (A+1).toNat).take (sizeC c).toNat=R at *
 generalize ld s.m=D at *
 generalize hz:sizeC c=z at *
 dsimp only [XV,MV,mL,mC,mR] at *
 refine ZEN Tryz.func15 Tryz.ntmps15 ?_
 repeat' (first|(refine ZAL ?_;first|refine Av ?_|refine Ae ?_|refine uA ?_|refine uI [0,1,2,3,4,5,6,7,8,9,10] (c1) ?_|refine uI [1,2,3,4] (c2) ?_|refine uK (c3) ?_)|(refine ZRG ?_;first|refine uR ?_|refine AT (c4) ?_)|refine uC ?_|refine Ev ?_|refine ZK2 (fun hc=>?_) (fun hc=>?_)|fail)
 all_goals try exact ZE5
 refine AW.wk (Wk.own 5 rfl 46 1 (.push rfl rfl)) ?_
 refine AW.loopP (fun (q:Nat)=>(q:Int)≤z) (fun (q:Nat)=>(pu (pu (pu (pu (fun _=>.any) 0 (.ptr 0 0)) 3 (.ptr 11 0)) 5 (.sl 12 q q)) 6 (i64 (A+1+q)))) (fun (q:Nat)=>[.box 114 [i64 c.kind,i64 c.threads,i64 c.chans,i64 c.cap,i64 c.nodes,i64 c.retire,i64 c.patience,i64 c.tags,i64 c.seqs,i64 c.gens,.t (.lst (c.start.map tI)),.ptr 1 0,.sl 5 0 th,.sl 6 0 th,.sl 7 vn s.notes.length,.sl 8 vu s.turns.length,.sl 9 0 th,.sl 10 0 th,i64 s.time],.box 135 [.sl 2 0 n,.sl 3 vl s.m.log.length,.sl 4 vc s.m.cnt.length,bo true],.row 0 46 1 (s.m.w.map tU),.row vl 83 7 (s.m.log.map tAc),.row vc 3 1 (s.m.cnt.map tI),.row 0 55 34 (s.tasks.map cTk),.row 0 145 7 (s.pumps.map cPu),.row vn 75 13 (s.notes.map cNt),.row vu 63 3 (s.turns.map cTn),.row 0 3 1 (s.steps.map tI),.row 0 3 1 (s.most.map tI),.box 45 [i64 ix,i64 gx],.row q 46 1 ((R.take q).map tU)]) (fun (q:Nat)=>z.toNat-q) (0) ?_ ?_ ?_
 ·show (0:Int)≤z;omega
 ·rw [show A+1+((0:Nat):Int)=A+1 by omega]
  exact Wk.cq 13
 ·intro q hq1
  have htk:(R.take q).length=q:=by rw [fY];omega
  have htk2:((R.take q).map tU).length=q:=by rw [fN,htk]
  by_cases hi:(q:Int)<z
  ·have c6:=hpk (A+1+q) ⟨by omega,by omega⟩
   repeat' (first|(refine ZAL ?_;first|refine Av ?_|refine Ae ?_|refine uA ?_|refine uI [1,2,3,4] (c6) ?_)|(refine ZRG ?_;first|refine uR ?_|refine AT (c5) ?_)|refine uC ?_|refine Ev ?_|refine ZK2 (fun hc=>?_) (fun hc=>?_)|fail)
   all_goals try exact ZE5
   have e7:R.take (q+1)=R.take q++[D (A+1+q)]:=by rw [iB,hget q hi];rfl
   refine ⟨q+1,by omega,by omega,?_⟩
   rw [e7,show A+1+((q+1:Nat):Int)=A+1+(q:Int)+1 by omega]
   exact Wk.cq 13
  ·have e7:R.take q=R:=jE (by omega)
   rw [e7] at *
   repeat' (first|((with_reducible refine kAW ?_);refine ufR (id:=9) 12 5 ?_)|(refine ZAL ?_;first|refine Av ?_|refine Ae ?_|refine uA ?_)|(refine ZRG ?_;first|refine uR ?_|refine AT (c5) ?_)|refine uC ?_|refine Ev ?_|refine ZK2 (fun hc=>?_) (fun hc=>?_)|fail)
   all_goals exact A3 Tryz.results15
theorem ApA (c:AB) (s:Mc) (n th vl vc vn vu:Nat) (htl:s.tasks.length=th) (hpl:s.pumps.length=th) (hth:th≤64) (hpu : ∀p∈s.pumps,p.outs.length≤8∧sI p.at_) :
  Cio Tryz.prog 46 [.ptr 0 0] (XV c s n th vl vc vn vu) (bo ((List.range th).all (HU s))) (XV c s n th vl vc vn vu):=by
 have c1:=JH c s n th vl vc vn vu
 have e1:(s.tasks.map cTk).length=s.tasks.length:=fN _
 have e2:(s.pumps.map cPu).length=s.pumps.length:=fN _
 dsimp only [XV,mL,mC,mR] at *
 refine ZEN Tryz.func46 Tryz.ntmps46 ?_
 repeat' (first|refine By ?_|refine uS 34 (fun hb=>?_) (fun hb=>?_)|refine ZK2 (fun hc=>?_) (fun hc=>?_)|fail)
 all_goals try exact ZE5
 refine AW.loopP (fun (q:Nat)=>q≤th ∧ ∀j,j<q→HU s j=true) (fun (q:Nat)=>(pu (pu (pu (pu (fun _=>.any) 0 (.ptr 0 0)) 13 (.sl 5 0 th)) 14 (i64 th)) 15 (i64 q))) (fun (q:Nat)=>[.box 114 [i64 c.kind,i64 c.threads,i64 c.chans,i64 c.cap,i64 c.nodes,i64 c.retire,i64 c.patience,i64 c.tags,i64 c.seqs,i64 c.gens,.t (.lst (c.start.map tI)),.ptr 1 0,.sl 5 0 th,.sl 6 0 th,.sl 7 vn s.notes.length,.sl 8 vu s.turns.length,.sl 9 0 th,.sl 10 0 th,i64 s.time],.box 135 [.sl 2 0 n,.sl 3 vl s.m.log.length,.sl 4 vc s.m.cnt.length,bo true],.row 0 46 1 (s.m.w.map tU),.row vl 83 7 (s.m.log.map tAc),.row vc 3 1 (s.m.cnt.map tI),.row 0 55 34 (s.tasks.map cTk),.row 0 145 7 (s.pumps.map cPu),.row vn 75 13 (s.notes.map cNt),.row vu 63 3 (s.turns.map cTn),.row 0 3 1 (s.steps.map tI),.row 0 3 1 (s.most.map tI)]) (fun (q:Nat)=>th-q) (0) ?_ ?_ ?_
 ·exact ⟨fX _,fun j hj=>by omega⟩
 ·exact Wk.cq 11
 ·rintro q ⟨hq1,hq2⟩
  by_cases hi:q<th
  ·obtain ⟨x,hx⟩ : ∃x,s.tasks[q]? = some x:=⟨_,ZgE (by omega)⟩
   obtain ⟨p,hp⟩ : ∃p,s.pumps[q]? = some p:=⟨_,ZgE (by omega)⟩
   have gx:tkM s q=x:=by unfold tkM;rw [fQ,hx];rfl
   have gp:puM s q=p:=by unfold puM;rw [fQ,hp];rfl
   have hpb:=hpu p (fO hp)
   have hall:HU s q=false→(List.range th).all (HU s)=false:=fun h=>by
    cases e:(List.range th).all (HU s)
    ·rfl
    ·have:=iI.1 e q (kN.2 hi);rw [h] at this;cases this
   have hid:HU s q=(decide (x.pc=0)&&(MW p).isNone):=by unfold HU;rw [gx,gp]
   cases hn:MW p with
   | none =>
    have c2:=w7_ p (by omega) hpb.2 hn
    by_cases hpc:x.pc=0
    ·have hq3:HU s q=true:=by rw [hid,hn,fW hpc];rfl
     repeat' (first|refine Cc ?_|refine uS 34 (fun hb=>?_) (fun hb=>?_)|refine ZK2 (fun hc=>?_) (fun hc=>?_)|fail)
     all_goals try exact ZE5
     refine ⟨q+1,⟨by omega,fun j hj=>?_⟩,by omega,?_⟩
     ·by_cases e:j=q
      ·rw [e];exact hq3
      ·exact hq2 j (by omega)
     ·exact Wk.cq 11
    ·rw [hall (by rw [hid,fZ hpc];rfl)]
     repeat' (first|refine Cc ?_|refine uS 34 (fun hb=>?_) (fun hb=>?_)|refine ZK2 (fun hc=>?_) (fun hc=>?_)|fail)
     all_goals exact A3 Tryz.results46
   | some qq =>
    rw [hall (by rw [hid,hn,Option.isNone_some,kE])]
    by_cases hpc:x.pc=0
    all_goals
     rcases w8_ p qq (by omega) hpb.2 hn with ⟨_,c2⟩|⟨_,c2⟩
     all_goals
      repeat' (first|refine Cc ?_|refine uS 34 (fun hb=>?_) (fun hb=>?_)|refine ZK2 (fun hc=>?_) (fun hc=>?_)|fail)
      all_goals first|(exfalso;omega)|((first|exact A6 Tryz.results46|refine A5 Tryz.results46 ?_|refine A8 Tryz.results46 ?_ ?_ ?_<;>repeat' (first|exact ZE1|refine ZE2 ?_ ?_|refine ZE3 ?_|exact ZE4|fail)))
  ·obtain rfl:q=th:=by omega
   rw [show (List.range q).all (HU s)=true from iI.2 fun j hj=>hq2 j (kN.1 hj)]
   repeat' (first|refine A0 ?_|refine uS 34 (fun hb=>?_) (fun hb=>?_)|refine ZK2 (fun hc=>?_) (fun hc=>?_)|fail)
   all_goals exact A3 Tryz.results46
abbrev MK0 (c:AB) (n th:Nat) (kp:Bool):List Ob :=
 [XBv c th 0 0 0 0 0,.box 135 [.sl 2 0 n,.sl 3 0 0,.sl 4 0 0,bo kp],mR 0 (setupL c),mL [] 0,mC [] 0,.row 0 55 34 ((newT c th).map cTk),.row 0 145 7 ((List.replicate th WG).map cPu),.row 0 75 13 [],.row 0 63 3 [],.row 0 3 1 ((List.replicate th (0:Int)).map tI),.row 0 3 1 ((List.replicate th (0:Int)).map tI)]
abbrev nC (c:AB):Nat:=(totL c).toNat
theorem AlW (n:Nat) (w:List Int) (kp:Bool) (hn:w.length=n) (h0:0<n):Cio Tryz.prog 74 [.ptr 0 0] [.box 135 [.sl 1 0 n,.sl 2 0 0,.sl 3 0 0,bo kp],mR 0 w,mL [] 0,mC [] 0] (bo true) [.box 135 [.sl 1 0 n,.sl 2 0 0,.sl 3 0 0,bo kp],mR 0 w,mL [] 0,mC [] 0]:=by
 refine C2 ?_
 repeat' (first|refine A0 ?_|refine uS 5 (fun hb=>?_) (fun hb=>?_)|refine ZK2 (fun hc=>?_) (fun hc=>?_)|fail)
 all_goals exact A3 Tryz.results74
theorem AlV (n:Nat) (w:List Int) (hn:w.length=n) (h0:0<n):Cio Tryz.prog 84 [.ptr 0 0,bo true] [.box 135 [.sl 1 0 n,.sl 2 0 0,.sl 3 0 0,bo false],mR 0 w,mL [] 0,mC [] 0] (.tup []) [.box 135 [.sl 1 0 n,.sl 2 0 0,.sl 3 0 0,bo true],mR 0 w,mL [] 0,mC [] 0]:=by
 have c1:=AlW n w false hn h0
 refine ZEN Tryz.func84 Tryz.ntmps84 ?_
 repeat' (first|refine Bf ?_|refine ZK2 (fun hc=>?_) (fun hc=>?_)|fail)
 all_goals exact A9 Tryz.results84
theorem AfS (c:AB) (n th:Nat):Cio Tryz.prog 49 [.ptr 0 0] (MK0 c n th false) (bo true) (MK0 c n th false):=by
 refine ZEN Tryz.func49 Tryz.ntmps49 ?_
 repeat' (first|refine A0 ?_|refine uS 5 (fun hb=>?_) (fun hb=>?_)|refine ZK2 (fun hc=>?_) (fun hc=>?_)|fail)
 all_goals exact A3 Tryz.results49
theorem AfR (c:AB) (n th:Nat) (hn:(setupL c).length=n) (h0:0<n):Cio Tryz.prog 48 [.ptr 0 0,bo true] (MK0 c n th false) (.tup []) (MK0 c n th true):=by
 have c1:=AfS c n th
 have c2:=AlV n (setupL c) hn h0
 dsimp only [MK0,XBv,mL,mC,mR] at *
 generalize setupL c=W at *
 refine ZEN Tryz.func48 Tryz.ntmps48 ?_
 repeat' (first|refine Gz ?_|refine ZK2 (fun hc=>?_) (fun hc=>?_)|fail)
 all_goals exact A9 Tryz.results48
theorem AtG (c:AB) (n:Nat):MK0 c n (thrN c) true=XO c (DC c) n (thrN c):=rfl
theorem NY {c:AB} (f:Okc c) (hs:c.start.length≤1000000000000):Cd Tryz.prog 12 [fCf c] (.ptr 0 0) (XO c (DC c) (nC c) (thrN c)):=by
 have hf:=f.facts
 have hw:=(KC f).1
 have htot:=f.tot
 have hb:=f.big
 have hz:1*(1+sizeC c)≤nodesL c*(1+sizeC c):=iD htot.2 (by omega)
 have c1:=AwE c f hs (nC c) (thrN c) rfl (by unfold thrN;omega)
 have c2:=AfR c (nC c) (thrN c) (by have e:(DC c).m.w=setupL c:=rfl;rw [e] at hw;show (setupL c).length=(totL c).toNat;omega) (by show 0<(totL c).toNat;omega)
 rw [←AtG]
 dsimp only [MK0,XBv,mL,mC,mR] at *
 generalize thrN c=th at *
 generalize newT c th=NT at *
 generalize setupL c=W at *
 generalize (totL c).toNat=n at *
 refine ZEN Tryz.func12 Tryz.ntmps12 ?_
 repeat' (first|(refine ZAL ?_;first|refine uA ?_|refine uK (c1) ?_|refine uI [1,2,3,4,5,6,7,8,9,10,11] (c2) ?_)|refine uC ?_|refine uS 12 (fun hb=>?_) (fun hb=>?_)|refine ZK2 (fun hc=>?_) (fun hc=>?_)|fail)
 all_goals first|(exfalso;omega)|((first|exact Fin.q Tryz.results12 (.cons (.tmp rfl) .nil) [1,2,3,4,5,6,7,8,9,10,11]|refine Fin.q Tryz.results12 (.cons (.tmp rfl) .nil) [1,2,3,4,5,6,7,8,9,10,11] (hr:=(.t ?_))|refine Fin.mkv (rs:=_) Tryz.results12 (.cons (.tmp rfl) .nil) [1,2,3,4,5,6,7,8,9,10,11] (by decide) rfl ?_ ?_ ?_<;>repeat' (first|exact ZE1|refine ZE2 ?_ ?_|refine ZE3 ?_|exact ZE4|fail)))
def LT (c:AB):Bool:=decide (chkL c=0)&&decide (c.threads≤4)&&decide (totL c≤4000)
theorem UQ (c:AB) (hs:c.start.length≤1152921504606846976):Cd Tryz.prog 10 [fCf c] (bo (LT c)) []:=by
 have c1:=AnE c hs
 have c2:=YX c hs
 unfold LT
 generalize chkL c=k at *
 generalize totL c=t at *
 by_cases h1:k=0
 ·by_cases h2:c.threads≤4
  ·rw [fW h1,fW h2]
   simp only [kM]
   refine ZEN Tryz.func10 Tryz.ntmps10 ?_
   repeat' (first|refine Ai ?_|refine uS 6 (fun hb=>?_) (fun hb=>?_)|refine uS 11 (fun hb=>?_) (fun hb=>?_)|refine ZK2 (fun hc=>?_) (fun hc=>?_)|fail)
   all_goals exact A3 Tryz.results10
  ·rw [fW h1,fZ h2]
   simp only [kM,jH]
   refine ZEN Tryz.func10 Tryz.ntmps10 ?_
   repeat' (first|refine Ai ?_|refine uS 6 (fun hb=>?_) (fun hb=>?_)|refine uS 11 (fun hb=>?_) (fun hb=>?_)|refine ZK2 (fun hc=>?_) (fun hc=>?_)|fail)
   all_goals exact A3 Tryz.results10
 ·rw [fZ h1]
  simp only [jH]
  refine ZEN Tryz.func10 Tryz.ntmps10 ?_
  repeat' (first|refine Ai ?_|refine uS 6 (fun hb=>?_) (fun hb=>?_)|refine uS 11 (fun hb=>?_) (fun hb=>?_)|refine ZK2 (fun hc=>?_) (fun hc=>?_)|fail)
  all_goals exact A3 Tryz.results10
theorem UA {c:AB} (h:LT c=true):Okc c∧c.threads≤4∧totL c≤4000:=by
 unfold LT at h
 simp only [gG,gM] at h
 obtain ⟨⟨h1,h2⟩,h3⟩:=h
 refine ⟨⟨?_,by omega⟩,h2,h3⟩
 unfold chkL at h1
 cases e:AZ c
 ·rw [e] at h1;simp at h1
 ·rfl
theorem AjP:Cd Tryz.prog 44 [] (fCf exC) []:=by
 have h0:Cd Tryz.prog 44 [] (.agg [i64 3,i64 2,i64 2,i64 1,i64 5,i64 2,i64 1,i64 999,i64 99,i64 3,.sl 0 0 2]) [.row 0 3 1 ([0,1].map tI)]:=by
  refine ZEN Tryz.func44 Tryz.ntmps44 ?_
  repeat' (first|(refine ZAL ?_;first|(refine kL 719 rfl ?_;first|refine A_lit rfl rfl 22 2 _ rfl ud22 inf3 (.cons rfl (.cons rfl .nil)) (els:=[[_],[_]]) rfl bF rfl (gB rfl) (ZbT rfl) (ZbT rfl) (.push qL qN) ?_)|refine uA ?_)|refine uC ?_|refine ZK2 (fun hc=>?_) (fun hc=>?_)|fail)
  all_goals first|(exfalso;omega)|((first|exact Fin.q Tryz.results44 (.cons (.agg rfl rfl i4_ rfl PZ (us:=[_,_,_,_,_,_,_,_,_,_,_]) rfl rfl) .nil) [1]|refine Fin.q Tryz.results44 (.cons (.agg rfl rfl i4_ rfl PZ (us:=[_,_,_,_,_,_,_,_,_,_,_]) rfl rfl) .nil) [1] (hr:=(.t ?_))|refine Fin.mkv (rs:=_) Tryz.results44 (.cons (.agg rfl rfl i4_ rfl PZ (us:=[_,_,_,_,_,_,_,_,_,_,_]) rfl rfl) .nil) [1] (by decide) rfl ?_ ?_ ?_<;>repeat' (first|exact ZE1|refine ZE2 ?_ ?_|refine ZE3 ?_|exact ZE4|fail)))
 unfold exC
 dsimp only [fCf]
 have h0':=Cd.frz1 h0 0 rfl aB rfl;exact Cd.drop h0' rfl
theorem AjO (d h v:Int):Cd Tryz.prog 45 [i64 d,i64 h,i64 v] (fRq (exR d h v)) []:=by
 have h0:Cd Tryz.prog 45 [i64 d,i64 h,i64 v] (.agg [i64 3,i64 0,i64 0,bo false,.sl 0 0 1]) [.row 0 141 3 ([(⟨d,h,v⟩:BF)].map tCs)]:=by
  refine ZEN Tryz.func45 Tryz.ntmps45 ?_
  repeat' (first|(refine ZAL ?_;first|refine H9 ?_|refine Ha ?_|refine uA ?_)|refine uC ?_|refine ZK2 (fun hc=>?_) (fun hc=>?_)|fail)
  all_goals first|(exfalso;omega)|((first|exact Fin.q Tryz.results45 (.cons (.agg rfl rfl ud32 rfl inf32 (us:=[_,_,_,_,_]) rfl rfl) .nil) [1]|refine Fin.q Tryz.results45 (.cons (.agg rfl rfl ud32 rfl inf32 (us:=[_,_,_,_,_]) rfl rfl) .nil) [1] (hr:=(.t ?_))|refine Fin.mkv (rs:=_) Tryz.results45 (.cons (.agg rfl rfl ud32 rfl inf32 (us:=[_,_,_,_,_]) rfl rfl) .nil) [1] (by decide) rfl ?_ ?_ ?_<;>repeat' (first|exact ZE1|refine ZE2 ?_ ?_|refine ZE3 ?_|exact ZE4|fail)))
 unfold exR
 dsimp only [fRq]
 have h0':=Cd.frz1 h0 0 rfl aB rfl;exact Cd.drop h0' rfl
theorem AsY {c:AB} (f:Okc c) {m:Mm} {l l1:List AC} {u:List CP} (h:US c m l u) (b:Bg c l l1):US c m l1 u:=by
 obtain ⟨S,H,A,L⟩:=h
 refine ⟨S,H,RV f A b,?_⟩
 rcases b with rfl|⟨t,q,ht,hp,hq,hs,rfl⟩
 ·exact L
 ·exact KI L (EY A.inv.ll ht) q
theorem AlH (c:AB) (s:Mc) {t:Nat} (ht:t<thrN c):Bg c s.tasks (goesM c s t).tasks∧(goesM c s t).m=s.m∧(goesM c s t).turns=s.turns:=by
 unfold goesM
 split
 ·exact ⟨.inl rfl,rfl,rfl⟩
 ·split
  ·split
   ·rename_i s' hs'
    obtain ⟨h1,h2,h3,rfl⟩:=CK hs'
    exact ⟨.inr ⟨t,_,ht,h1,h2,h3,rfl⟩,rfl,rfl⟩
   ·exact ⟨.inl rfl,rfl,rfl⟩
  ·exact ⟨.inl rfl,rfl,rfl⟩
theorem AiX {c:AB} (f:Okc c) (hs:c.start.length≤1152921504606846976) {S:List Nm} {H:Nat→Int} {m:Mm} {l:List AC} {u:List CP} (A:All c S H m l u) (L:Lrg m l) (hl:m.log.length≤100000) {t:Nat} {x:AC} (hx:l[t]? = some x):TK c t x m (nC c):=by
 have I:=A.inv
 have hnC:nC c=(totL c).toNat:=rfl
 obtain ⟨a,b⟩:=L (by omega)
 have hf:=f.facts
 have ht:=f.tot
 have hb:=f.big
 have hw:=I.wl
 have hz:1*(1+sizeC c)≤nodesL c*(1+sizeC c):=iD ht.2 (by omega)
 have hgl:=a.gl
 refine ⟨f,hs,⟨by omega,by omega,by omega,by omega,a.cl,fun y hy=>by have:=a.cr y hy;omega⟩,by omega,I.tlt hx,I.loc t x hx,(b t x hx).mono (by omega),a.wu,⟨I.g0,by omega⟩,fun ho=>?_,fun hr=>?_,fun hp=>?_⟩
 ·have h1:=I.own t x hx ho
  have h2:=(I.prg t x hx _ (EV ho)).1
  exact ⟨⟨h1.1,by omega⟩,h2⟩
 ·obtain ⟨⟨r,hr1⟩,hr2⟩:=I.baS t x hx (.inl hr)
  obtain ⟨k1,k2,k3, -, -⟩:=I.sok _ hr1
  have hg:=(u9_ k2.1 k2.2 k1).1
  have hg2:=HR.1 hg
  have hi:x.base.index=rdI (wdF x.base):=congrArg HA.index hr2
  have hg:x.base.tag=rdT (wdF x.base):=congrArg HA.tag hr2
  dsimp only at k3 hg2
  exact ⟨by omega,by omega,by omega,by omega⟩
 ·have:=I.sg t x hx hp
  exact ⟨this.1,by omega⟩
theorem AqS {c:AB} (f:Okc c) (hs:c.start.length≤1152921504606846976) {s:Mc} {N U T B:Nat} (h:US c s.m s.tasks s.turns) (ms:Ms c s N U T B) (hl:s.m.log.length≤100000) (hN:N≤100000) (hU:U≤100000) (hT:T≤1000000) (hB:B≤1000000):XK c s (nC c) (thrN c):=by
 obtain ⟨S,H,A,L⟩:=h
 have I:=A.inv
 have hnC:nC c=(totL c).toNat:=rfl
 have hf:=f.facts
 obtain ⟨a,b⟩:=L (by omega)
 have ht:=f.tot
 have hb:=f.big
 have hw:=I.wl
 have hz:1*(1+sizeC c)≤nodesL c*(1+sizeC c):=iD ht.2 (by omega)
 have hll:=I.ll
 have hth:((thrN c:Nat):Int)=c.threads:=by unfold thrN;omega
 refine ⟨f,hs,⟨by omega,by omega,by omega,by omega,a.cl,fun y hy=>by have:=a.cr y hy;omega⟩,by omega,hth,by omega,ms.pl,ms.sl,ms.ml,jA ms.nl hN,jA ms.ul hU,by have:=ms.tm;omega,fun x hx=>by have:=ms.st x hx;omega,fun x hx=>by have:=ms.mo x hx;omega,ms.rq,fun x hx=>?_,fun p hp=>?_,fun t x hx _=>AiX f hs A L hl hx⟩
 ·obtain ⟨t,ht⟩:=List.mem_iff_getElem?.1 hx
  have:=(I.loc t x ht).seq
  omega
 ·have:=ms.pu p hp
  exact ⟨this.1,⟨by have:=this.2;omega,by have:=this.2;omega⟩⟩
theorem y_ (c:AB) (s:Mc) (n th:Nat):Cio Tryz.prog 49 [.ptr 0 0] (XO c s n th) (bo true) (XO c s n th):=by
 refine ZEN Tryz.func49 Tryz.ntmps49 ?_
 repeat' (first|refine A0 ?_|refine uS 5 (fun hb=>?_) (fun hb=>?_)|refine ZK2 (fun hc=>?_) (fun hc=>?_)|fail)
 all_goals exact A3 Tryz.results49
theorem AcB (c:AB) (s:Mc) (n th:Nat) (t:Int) (hl:s.tasks.length=th):Cio Tryz.prog 50 [.ptr 0 0,i64 t] (XO c s n th) (bo (decide (0≤t∧t<th))) (XO c s n th):=by
 have c1:=y_ c s n th
 by_cases h:0≤t∧t<th
 ·rw [fW h]
  refine ZEN Tryz.func50 Tryz.ntmps50 ?_
  repeat' (first|refine By ?_|refine uS 7 (fun hb=>?_) (fun hb=>?_)|refine uS 11 (fun hb=>?_) (fun hb=>?_)|refine ZK2 (fun hc=>?_) (fun hc=>?_)|fail)
  all_goals exact A3 Tryz.results50
 ·rw [fZ h]
  by_cases h0:0≤t
  all_goals
   refine ZEN Tryz.func50 Tryz.ntmps50 ?_
   repeat' (first|refine By ?_|refine uS 7 (fun hb=>?_) (fun hb=>?_)|refine uS 11 (fun hb=>?_) (fun hb=>?_)|refine ZK2 (fun hc=>?_) (fun hc=>?_)|fail)
   all_goals first|(exfalso;omega)|((first|exact A6 Tryz.results50|refine A5 Tryz.results50 ?_|refine A8 Tryz.results50 ?_ ?_ ?_<;>repeat' (first|exact ZE1|refine ZE2 ?_ ?_|refine ZE3 ?_|exact ZE4|fail)))
structure okE (e:DB):Prop where
 t:sI e.thread
 i:okI e.inn
 o : ∀x∈e.outs,okI x
 ol:e.outs.length≤17592186044415
 cl:e.req.cases.length≤5864062014805
theorem LK {c:AB} (f:Okc c) (hs:c.start.length≤1152921504606846976) {s:Mc} {k:Nat} (h:Mq c s k) (hk:k≤40000) (e:DB) (he:okE e) :
  ∃r:Int,Cio Tryz.prog 13 [.ptr 0 0,aEv e] (XO c s (nC c) (thrN c)) (i64 r) (XO c (doM c s e) (nC c) (thrN c)):=by
 have hll:=h.ll
 have K:=AqS f hs h.kn h.ms (by omega) (by omega) (by omega) (by omega) (by omega)
 have hthc:=K.thc
 have c0:=y_ c s (nC c) (thrN c)
 have ct:=AcB c s (nC c) (thrN c) e.thread K.tl
 have htm:=h.ms.tm
 unfold doM
 by_cases ht:0≤e.thread∧e.thread<c.threads
 ·rw [fR ht]
  rw [fW (by omega)] at ct
  obtain ⟨t,het⟩ : ∃t:Nat,e.thread=t:=⟨e.thread.toNat,by omega⟩
  have htl:t<thrN c:=by omega
  have htn:e.thread.toNat=t:=by omega
  rw [htn]
  clear htn
  by_cases k1:e.kind=1
  ·rw [fR k1]
   have hb:=AlH c (AP s) htl
   have hg:=YG (t:=t) (KK h.ms)
   have K2:=AqS (s:=goesM c (AP s) t) f hs (by rw [hb.2.1,hb.2.2];exact AsY f h.kn hb.1) hg (by rw [hb.2.1];exact jA hll (by omega)) (by omega) (by omega) (by omega) (by omega)
   have c1:=AmJ c s (nC c) (thrN c) K (by omega) t htl K2
   generalize pickM c s t=s' at *
   obtain ⟨ek,et,eq,ei,eo⟩:=e
   dsimp only at *
   subst het
   refine ⟨0,?_⟩
   refine Cj ?_
   repeat' (first|refine Ew ?_|refine ZK2 (fun hc=>?_) (fun hc=>?_)|fail)
   all_goals exact A3 Tryz.results13
  ·rw [fT k1]
   by_cases k2:e.kind=2
   ·rw [fR k2]
    have c1:=AmF c s (nC c) (thrN c) K (by omega) t htl e.req he.cl
    generalize callM c s t e.req=s' at *
    generalize (if LE s t e.req=true then (0:Int) else 15)=r at *
    obtain ⟨ek,et,eq,ei,eo⟩:=e
    dsimp only at *
    subst het
    refine ⟨r,?_⟩
    refine Cj ?_
    repeat' (first|refine Ew ?_|refine ZK2 (fun hc=>?_) (fun hc=>?_)|fail)
    all_goals exact A3 Tryz.results13
   ·rw [fT k2]
    by_cases k3:e.kind=3
    ·rw [fR k3]
     obtain ⟨r,c1⟩:=AmK c s (nC c) (thrN c) K (by omega) e t het htl he.i he.o he.ol
     generalize pumpM c s t e.inn e.outs=s' at *
     obtain ⟨ek,et,eq,ei,eo⟩:=e
     dsimp only at *
     subst het
     refine ⟨r,?_⟩
     refine Cj ?_
     repeat' (first|refine Ew ?_|refine ZK2 (fun hc=>?_) (fun hc=>?_)|fail)
     all_goals exact A3 Tryz.results13
    ·rw [fT k3]
     obtain ⟨ek,et,eq,ei,eo⟩:=e
     dsimp only at *
     subst het
     refine ⟨15,?_⟩
     refine Cj ?_
     repeat' (first|refine H8 ?_|refine ZK2 (fun hc=>?_) (fun hc=>?_)|fail)
     all_goals exact A3 Tryz.results13
 ·rw [fT ht]
  rw [fZ (by omega)] at ct
  obtain ⟨ek,et,eq,ei,eo⟩:=e
  dsimp only at *
  refine ⟨15,?_⟩
  refine Cj ?_
  repeat' (first|refine H8 ?_|refine ZK2 (fun hc=>?_) (fun hc=>?_)|fail)
  all_goals exact A3 Tryz.results13
theorem m9_ {e:DB} (s:sEv e):okE e:=by
 obtain ⟨a,b,⟨h1,h2,h3,h4,h5⟩,h6,h7⟩:=s
 refine ⟨b,h6,fun x hx=>h7.2 x hx,?_,?_⟩
 ·have:=h7.1;simp only [reachBytes] at this;omega
 ·have:=h5.1;simp only [reachBytes] at this;omega
theorem k3_ (n th:Nat) (s0:Mc) (P Q:Nat→Mc) (c0:Cd Tryz.prog 12 [fCf exC] (.ptr 0 0) (XO exC s0 n th)) (d0 : ∃r:Int,Cio Tryz.prog 13 [.ptr 0 0,aEv (HO 0 (exR 2 8 0))] (XO exC s0 n th) (i64 r) (XO exC (P 0) n th))
  (dP : ∀i:Nat,i<100 → ∃r:Int,Cio Tryz.prog 13 [.ptr 0 0,aEv (GH 0)] (XO exC (P i) n th) (i64 r) (XO exC (P (i+1)) n th))
  (dB : ∃r:Int,Cio Tryz.prog 13 [.ptr 0 0,aEv (HO 1 (exR 1 8 7))] (XO exC (P 100) n th) (i64 r) (XO exC (Q 0) n th))
  (dQ : ∀j:Nat,j<200 → ∃r:Int,Cio Tryz.prog 13 [.ptr 0 0,aEv (GH (1-(j:Int)%2))] (XO exC (Q j) n th) (i64 r) (XO exC (Q (j+1)) n th))
  (x0 x1:AC) (n1:JP)
  (o1:Cio Tryz.prog 46 [.ptr 0 0] (XO exC (Q 200) n th) (bo true) (XO exC (Q 200) n th))
  (o2:Cio Tryz.prog 26 [.ptr 0 0] (XO exC (Q 200) n th) (.t (.lst ((Q 200).notes.map cNt))) (XO exC (Q 200) n th))
  (o3:Cio Tryz.prog 17 [.ptr 0 0,i64 0] (XO exC (Q 200) n th) (fTk x0) (XO exC (Q 200) n th))
  (o4:Cio Tryz.prog 17 [.ptr 0 0,i64 1] (XO exC (Q 200) n th) (fTk x1) (XO exC (Q 200) n th))
  (o5:Cio Tryz.prog 16 [.ptr 0 0] (XO exC (Q 200) n th) (.t (.lst ((Q 200).turns.map cTn))) (XO exC (Q 200) n th))
  (h1:(Q 200).notes.length=5) (h2:(Q 200).notes[1]? = some n1) (h3:n1.kind=2) (h4:x0.res.value=7) (h5:x1.res.code=0) (h6:(Q 200).turns.length=2) :
  Cd Tryz.prog 11 [] (bo true) []:=by
 have p1:=AjP
 have p2:=AjO 2 8 0
 have p3:=AjO 1 8 7
 obtain ⟨r0,c1⟩:=d0
 obtain ⟨rB,c2⟩:=dB
 have e1:((Q 200).notes.map cNt).length=5:=by rw [fN,h1]
 have e2:((Q 200).turns.map cTn).length=2:=by rw [fN,h6]
 generalize hQ:Q 200=qe at *
 generalize hP:P 100=pe at *
 dsimp only [XO,XB,mL,mC,mR] at *
 refine ZEN Tryz.func11 Tryz.ntmps11 ?_
 repeat' (first|(refine ZAL ?_;first|refine uA ?_|refine uK (p1) ?_|refine uK (c0) ?_|refine uK (p2) ?_|refine uI [0,1,2,3,4,5,6,7,8,9,10] (c1) ?_)|refine uC ?_|refine uS 38 (fun hb=>?_) (fun hb=>?_)|refine uS 43 (fun hb=>?_) (fun hb=>?_)|refine uS 50 (fun hb=>?_) (fun hb=>?_)|refine uS 57 (fun hb=>?_) (fun hb=>?_)|refine uS 64 (fun hb=>?_) (fun hb=>?_)|refine ZK2 (fun hc=>?_) (fun hc=>?_)|fail)
 all_goals try exact ZE5
 refine AW.loopP (fun (i:Nat)=>i≤100) (fun (i:Nat)=>(pu (pu (fun _=>.any) 1 (.ptr 0 0)) 2 (i64 i))) (fun (i:Nat)=>[.box 114 [i64 exC.kind,i64 exC.threads,i64 exC.chans,i64 exC.cap,i64 exC.nodes,i64 exC.retire,i64 exC.patience,i64 exC.tags,i64 exC.seqs,i64 exC.gens,.t (.lst (exC.start.map tI)),.ptr 1 0,.sl 5 0 th,.sl 6 0 th,.sl 7 (P i).notes.length (P i).notes.length,.sl 8 (P i).turns.length (P i).turns.length,.sl 9 0 th,.sl 10 0 th,i64 (P i).time],.box 135 [.sl 2 0 n,.sl 3 (P i).m.log.length (P i).m.log.length,.sl 4 (P i).m.cnt.length (P i).m.cnt.length,bo true],.row 0 46 1 ((P i).m.w.map tU),.row (P i).m.log.length 83 7 ((P i).m.log.map tAc),.row (P i).m.cnt.length 3 1 ((P i).m.cnt.map tI),.row 0 55 34 ((P i).tasks.map cTk),.row 0 145 7 ((P i).pumps.map cPu),.row (P i).notes.length 75 13 ((P i).notes.map cNt),.row (P i).turns.length 63 3 ((P i).turns.map cTn),.row 0 3 1 ((P i).steps.map tI),.row 0 3 1 ((P i).most.map tI)]) (fun (i:Nat)=>100-i) (0) ?_ ?_ ?_
 ·exact fX _
 ·exact Wk.cq 11
 ·intro i hi
  by_cases h:i<100
  ·obtain ⟨r,c3⟩:=dP i h
   repeat' (first|refine Ex ?_|refine uS 38 (fun hb=>?_) (fun hb=>?_)|refine uS 43 (fun hb=>?_) (fun hb=>?_)|refine uS 50 (fun hb=>?_) (fun hb=>?_)|refine uS 57 (fun hb=>?_) (fun hb=>?_)|refine uS 64 (fun hb=>?_) (fun hb=>?_)|refine ZK2 (fun hc=>?_) (fun hc=>?_)|fail)
   all_goals try exact ZE5
   refine ⟨i+1,by omega,by omega,?_⟩
   exact Wk.cq 11
  ·obtain rfl:i=100:=by omega
   rw [hP]
   repeat' (first|(refine ZAL ?_;first|refine uA ?_|refine uK (p3) ?_|refine uI [0,1,2,3,4,5,6,7,8,9,10] (c2) ?_)|refine uC ?_|refine uS 38 (fun hb=>?_) (fun hb=>?_)|refine uS 43 (fun hb=>?_) (fun hb=>?_)|refine uS 50 (fun hb=>?_) (fun hb=>?_)|refine uS 57 (fun hb=>?_) (fun hb=>?_)|refine uS 64 (fun hb=>?_) (fun hb=>?_)|refine ZK2 (fun hc=>?_) (fun hc=>?_)|fail)
   all_goals try exact ZE5
   refine AW.loopP (fun (j:Nat)=>j≤200) (fun (j:Nat)=>(pu (pu (fun _=>.any) 1 (.ptr 0 0)) 3 (i64 j))) (fun (j:Nat)=>[.box 114 [i64 exC.kind,i64 exC.threads,i64 exC.chans,i64 exC.cap,i64 exC.nodes,i64 exC.retire,i64 exC.patience,i64 exC.tags,i64 exC.seqs,i64 exC.gens,.t (.lst (exC.start.map tI)),.ptr 1 0,.sl 5 0 th,.sl 6 0 th,.sl 7 (Q j).notes.length (Q j).notes.length,.sl 8 (Q j).turns.length (Q j).turns.length,.sl 9 0 th,.sl 10 0 th,i64 (Q j).time],.box 135 [.sl 2 0 n,.sl 3 (Q j).m.log.length (Q j).m.log.length,.sl 4 (Q j).m.cnt.length (Q j).m.cnt.length,bo true],.row 0 46 1 ((Q j).m.w.map tU),.row (Q j).m.log.length 83 7 ((Q j).m.log.map tAc),.row (Q j).m.cnt.length 3 1 ((Q j).m.cnt.map tI),.row 0 55 34 ((Q j).tasks.map cTk),.row 0 145 7 ((Q j).pumps.map cPu),.row (Q j).notes.length 75 13 ((Q j).notes.map cNt),.row (Q j).turns.length 63 3 ((Q j).turns.map cTn),.row 0 3 1 ((Q j).steps.map tI),.row 0 3 1 ((Q j).most.map tI)]) (fun (j:Nat)=>200-j) (0) ?_ ?_ ?_
   ·exact fX _
   ·exact Wk.cq 11
   ·intro j hj
    by_cases h':j<200
    ·obtain ⟨r,c3⟩:=dQ j h'
     repeat' (first|refine Ex ?_|refine uS 38 (fun hb=>?_) (fun hb=>?_)|refine uS 43 (fun hb=>?_) (fun hb=>?_)|refine uS 50 (fun hb=>?_) (fun hb=>?_)|refine uS 57 (fun hb=>?_) (fun hb=>?_)|refine uS 64 (fun hb=>?_) (fun hb=>?_)|refine ZK2 (fun hc=>?_) (fun hc=>?_)|fail)
     all_goals try exact ZE5
     refine ⟨j+1,by omega,by omega,?_⟩
     exact Wk.cq 11
    ·obtain rfl:j=200:=by omega
     rw [hQ]
     repeat' (first|(refine ZAL ?_;first|refine uA ?_|refine uI [0,1,2,3,4,5,6,7,8,9,10] (o2) ?_|refine uI [0,1,2,3,4,5,6,7,8,9,10] (o1) ?_|(first|refine uI [0,1,2,3,4,5,6,7,8,9,10] (o3) ?_|refine uI [0,1,2,3,4,5,6,7,8,9,10] (o4) ?_)|refine uI [0,1,2,3,4,5,6,7,8,9,10] (o5) ?_)|refine uC ?_|refine uS 38 (fun hb=>?_) (fun hb=>?_)|refine uS 43 (fun hb=>?_) (fun hb=>?_)|refine uS 50 (fun hb=>?_) (fun hb=>?_)|refine uS 57 (fun hb=>?_) (fun hb=>?_)|refine uS 64 (fun hb=>?_) (fun hb=>?_)|refine ZK2 (fun hc=>?_) (fun hc=>?_)|fail)
     all_goals exact A3 Tryz.results11
end
section
section
variable {c:AB} {s:Mc} {k:Nat} (f:Okc c) (Z:Mz c s k) (hk:k≤2000) (vl vc vn vu:Nat)
include f Z hk
theorem FH:s.m.log.length≤2000∧s.tasks.length=thrN c∧(thrN c:Int)=c.threads∧thrN c≤64:=by
 have h1:=Z.q.ll
 obtain ⟨S,H,A,L⟩:=Z.q.kn
 have h2:=A.inv.ll
 have hf:=f.facts
 have h3:((thrN c:Nat):Int)=c.threads:=by unfold thrN;omega
 exact ⟨by omega,by omega,h3,by omega⟩
theorem NZ {t:Nat} {x:AC} (hx:s.tasks[t]? = some x):Cio Tryz.prog 17 [.ptr 0 0,i64 t] (XV c s (nC c) (thrN c) vl vc vn vu) (fTk x) (XV c s (nC c) (thrN c) vl vc vn vu):=by
 obtain ⟨h1,h2, -, -⟩:=FH f Z hk
 obtain ⟨S,H,A,L⟩:=Z.q.kn
 obtain ⟨-,R⟩:=L (by omega)
 have r:=R t x hx
 have l:=Z.l.2 t x hx
 have hq:=Z.q.ms.rq x (fO hx)
 have l1:=l.bf
 have l2:=l.nx
 have l3:=l.ar
 have l4:=l.se
 have r1:=r.fl
 have r2:=r.po
 exact ApC c s (nC c) (thrN c) vl vc vn vu t x hx h2 (by omega) ⟨by omega,by omega,by omega,by omega⟩ (by omega) (fun o ho=>by have:=MI (r.fo o ho).f;omega) (by omega)
theorem AjN:Cio Tryz.prog 26 [.ptr 0 0] (XV c s (nC c) (thrN c) vl vc vn vu) (.t (.lst (s.notes.map cNt))) (XV c s (nC c) (thrN c) vl vc vn vu) :=
 AjM c s (nC c) (thrN c) vl vc vn vu (by have:=(FH f Z hk).1;have:=Z.q.ms.nl;omega) (fun x hx=>by have:=Z.n x hx;omega)
theorem j4_:Cio Tryz.prog 16 [.ptr 0 0] (XV c s (nC c) (thrN c) vl vc vn vu) (.t (.lst (s.turns.map cTn))) (XV c s (nC c) (thrN c) vl vc vn vu) :=
 AjQ c s (nC c) (thrN c) vl vc vn vu (by have:=Z.q.ms.ul;omega) (fun v hv=>by
  obtain ⟨a,b⟩:=Z.t.2 (by have:=(FH f Z hk).1;omega) v hv
  exact ⟨by have:=(FH f Z hk).1;omega,fun o ho=>by have:=MI (b o ho).f;omega⟩)
theorem ApB:Cio Tryz.prog 46 [.ptr 0 0] (XV c s (nC c) (thrN c) vl vc vn vu) (bo ((List.range (thrN c)).all (HU s))) (XV c s (nC c) (thrN c) vl vc vn vu) :=
 ApA c s (nC c) (thrN c) vl vc vn vu (FH f Z hk).2.1 Z.q.ms.pl (FH f Z hk).2.2.2 (fun p hp=>by
  have:=Z.q.ms.pu p hp
  exact ⟨this.1,⟨by have:=this.2;omega,by have:=this.2;omega⟩⟩)
theorem AwD:Cio Tryz.prog 30 [.ptr 0 0] (XV c s (nC c) (thrN c) vl vc vn vu) (.ptr 11 0) ((XV c s (nC c) (thrN c) vl vc vn vu)++[fMm s.m])∧0<s.m.w.length:=by
 have h1:=(FH f Z hk).1
 obtain ⟨S,H,A,L⟩:=Z.q.kn
 obtain ⟨a, -⟩:=L (by omega)
 have hw:=A.inv.wl
 have hb:=f.big
 have hf:=f.facts
 have ht:=f.tot
 have hz:1*(1+sizeC c)≤nodesL c*(1+sizeC c):=iD ht.2 (by omega)
 have hnC:nC c=(totL c).toNat:=rfl
 exact ⟨AwC c s (nC c) (thrN c) vl vc vn vu (by omega) (by omega) (by omega) (by omega) a.cl,by omega⟩
end
theorem FG {c:AB} (f:Okc c):c.start.length≤1000000000000:=by
 have h:=f.ok
 unfold AZ at h
 simp only [gG] at h
 have ho:=h.2
 unfold ownC at ho
 split at ho
 ·simp only [gG,gM] at ho
  rw [ho.2];exact fX _
 ·split at ho
  ·simp only [gG,gM,BX] at ho
   have h1:=ho.1.2
   have h2:=ho.1.1.1.1.2
   omega
  ·cases ho
def awA:Mc:=doM exC (DC exC) (HO 0 (exR 2 8 0))
def awP (i:Nat):Mc:=(List.replicate i (GH 0)).foldl (doM exC) awA
def awB:Mc:=doM exC (awP 100) (HO 1 (exR 1 8 7))
def awQ (j:Nat):Mc:=((List.range j).map fun (i:Nat)=>GH (1-(i:Int)%2)).foldl (doM exC) awB
theorem AdA (i:Nat):awP (i+1)=doM exC (awP i) (GH 0):=by unfold awP;rw [lV,jY];rfl
theorem AdC (j:Nat):awQ (j+1)=doM exC (awQ j) (GH (1-(j:Int)%2)):=by unfold awQ;rw [kG,iP,jY];rfl
theorem AkG:AhK exC exL=awQ 200:=by
 unfold AhK exL awQ awB awP awA
 rw [lF,jY,lF]
set_option maxRecDepth 1000000 in
theorem AxM:AxL (AhK exC exL)=true:=by decide +kernel
theorem OG:Okc exC:=⟨by decide,by decide⟩
theorem AdB (i:Nat):Mz exC (awP i) (1+i):=by
 have:=QW OG (List.replicate i (GH 0)) (VZ OG (m6_ OG) (HO 0 (exR 2 8 0)))
 rw [iV,gV] at this
 exact this
theorem ApR (j:Nat):Mz exC (awQ j) (102+j):=by
 have:=QW OG ((List.range j).map fun (i:Nat)=>GH (1-(i:Int)%2)) (VZ OG (AdB 100) (HO 1 (exR 1 8 7)))
 rw [fN,lE] at this
 exact this
theorem e8_ {t:Int} (h:sI t):okE (GH t):=⟨h,show okI 0 by unfold okI;decide,fun x hx=>(by cases hx),fX _,fX _⟩
theorem e7_ {t:Int} {q:AU} (h:sI t) (hq:q.cases.length≤5864062014805):okE (HO t q):=⟨h,show okI 0 by unfold okI;decide,fun x hx=>(by cases hx),fX _,hq⟩
theorem XL:Cd Tryz.prog 11 [] (bo true) []:=by
 have f:=OG
 have hs:exC.start.length≤1152921504606846976:=by decide
 have Z:=ApR 200
 have hE:=AxM
 rw [AkG] at hE
 unfold AxL at hE
 simp only [gG,gM] at hE
 obtain ⟨⟨⟨⟨⟨⟨i0,i1⟩,h1⟩,h3⟩,h4⟩,h5⟩,h6⟩:=hE
 have hth:thrN exC=2:=rfl
 have htl:=(FH f Z (by decide)).2.1
 rw [hth] at htl
 have c0:=NY f (by decide)
 have d0:=LK f hs (AgO f) (by decide) (HO 0 (exR 2 8 0)) (e7_ (by unfold sI;decide) (by decide))
 have dP:=fun (i:Nat) (hi:i<100)=>LK f hs (AdB i).q (by omega) (GH 0) (e8_ (by unfold sI;decide))
 have dB:=LK f hs (AdB 100).q (by decide) (HO 1 (exR 1 8 7)) (e7_ (by unfold sI;decide) (by decide))
 have dQ:=fun (j:Nat) (hj:j<200)=>LK f hs (ApR j).q (by omega) (GH (1-(j:Int)%2)) (e8_ (by unfold sI;omega))
 have o1:=ApB f Z (by decide) (awQ 200).m.log.length (awQ 200).m.cnt.length (awQ 200).notes.length (awQ 200).turns.length
 have o2:=AjN f Z (by decide) (awQ 200).m.log.length (awQ 200).m.cnt.length (awQ 200).notes.length (awQ 200).turns.length
 have g0:(awQ 200).tasks[0]? = some (tkM (awQ 200) 0):=by unfold tkM;rw [fQ,ZgE (by omega)];rfl
 have g1:(awQ 200).tasks[1]? = some (tkM (awQ 200) 1):=by unfold tkM;rw [fQ,ZgE (by omega)];rfl
 have o3:=NZ f Z (by decide) (awQ 200).m.log.length (awQ 200).m.cnt.length (awQ 200).notes.length (awQ 200).turns.length g0
 have o4:=NZ f Z (by decide) (awQ 200).m.log.length (awQ 200).m.cnt.length (awQ 200).notes.length (awQ 200).turns.length g1
 have o5:=j4_ f Z (by decide) (awQ 200).m.log.length (awQ 200).m.cnt.length (awQ 200).notes.length (awQ 200).turns.length
 have e1:(List.range (thrN exC)).all (HU (awQ 200))=true:=by rw [hth];simp [kG,i0,i1]
 rw [e1] at o1
 have dP' : ∀i:Nat,i<100 → ∃r:Int,Cio Tryz.prog 13 [.ptr 0 0,aEv (GH 0)] (XO exC (awP i) (nC exC) (thrN exC)) (i64 r) (XO exC (awP (i+1)) (nC exC) (thrN exC)):=fun i hi=>by rw [AdA];exact dP i hi
 have dQ' : ∀j:Nat,j<200 → ∃r:Int,Cio Tryz.prog 13 [.ptr 0 0,aEv (GH (1-(j:Int)%2))] (XO exC (awQ j) (nC exC) (thrN exC)) (i64 r) (XO exC (awQ (j+1)) (nC exC) (thrN exC)):=fun j hj=>by rw [AdC];exact dQ j hj
 have hP0:awP 0=doM exC (DC exC) (HO 0 (exR 2 8 0)):=rfl
 have hQ0:awQ 0=doM exC (awP 100) (HO 1 (exR 1 8 7)):=rfl
 rw [←hP0] at d0
 rw [←hQ0] at dB
 obtain ⟨n1,hn1⟩ : ∃n1,(awQ 200).notes[1]? = some n1:=⟨_,ZgE (by omega)⟩
 have h3':n1.kind=2:=by rw [fQ,hn1] at h3;exact h3
 clear dP dQ e1 hP0 hQ0
 exact k3_ (nC exC) (thrN exC) (DC exC) awP awQ c0 d0 dP' dB dQ' (tkM (awQ 200) 0) (tkM (awQ 200) 1) n1 o1 o2 o3 o4 o5 h1 hn1 h3' h4 h5 h6
end
end Go.Proofs.YtccefppppedgkaaGreat
