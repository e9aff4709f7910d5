/- Joined: XTFits, XTPut, XTPutU. -/
import Derived.Test.YtccefppppedgkaaGreatKGk
set_option linter.unusedVariables false
set_option linter.unusedSimpArgs false
set_option linter.unnecessarySimpa false
set_option maxRecDepth 100000
set_option maxHeartbeats 64000000
namespace Go.Proofs.YtccefppppedgkaaGreat
open Go.RowKit
section
attribute [local irreducible] AL AW RG Fin C Cd Cio AI AF AN
theorem PR (n M m:Int) (h:M=m+1):fitI n M=inI n 0 m:=by unfold fitI inI;exact kV.2 (by omega)
theorem AaC (n:Int):Cd Tryz.prog 260 [i64 n] (bo (!inI n 0 4294967295)) []:=by
 have c1:=IY n 0 4294967295
 generalize inI n 0 4294967295=b at c1
 refine ZEN Tryz.func260 Tryz.ntmps260 ?_
 repeat' (first|refine A6 ?_|fail)
 all_goals exact A2 Tryz.results260
theorem AiR (r:Rst):Cd Tryz.prog 257 [aR r] (bo (!goodR r)) []:=by
 have c1:=p9_ r
 generalize goodR r=b at c1
 refine ZEN Tryz.func257 Tryz.ntmps257 ?_
 repeat' (first|refine A6 ?_|fail)
 all_goals exact A2 Tryz.results257
theorem e9_ (l:List Int) (m:Int) (hl:l.length≤1152921504606846976):Cd Tryz.prog 243 [.ln (l.map tI),i64 m] (bo (valsOK l m)) []:=by
 have cF:=m4_ 260 [] [] (fun n => !inI n 0 4294967295) l (fun n _=>⟨_,_,[],[],rfl,Tryz.func260,by kernel_rfl,by kernel_rfl,fun _=>.nil,fun _=>.nil,AaC n⟩) rfl (fun _ _=>.fnL .nil .nil) hl
 have h1:(l.map tI).length=l.length:=fH _
 unfold valsOK
 rw [lR]
 generalize (l.any fun n => !inI n 0 4294967295)=b at *
 by_cases e:(l.length:Int)≤m
 ·rw [fR e]
  refine ZEN Tryz.func243 Tryz.ntmps243 ?_
  repeat' (first|refine Bc ?_|fail)
  all_goals exact A2 Tryz.results243
 ·rw [fP e]
  refine ZEN Tryz.func243 Tryz.ntmps243 ?_
  repeat' (first|refine A0 ?_|fail)
  all_goals exact A2 Tryz.results243
theorem AcH (l:List Rst) (m:Int) (hl:l.length≤1152921504606846976):Cd Tryz.prog 236 [.ln (l.map tR),i64 m] (bo (resOK l m)) []:=by
 have cF:=AiM 257 [] [] (fun r => !goodR r) l (fun r _=>⟨_,_,[],[],rfl,Tryz.func257,by kernel_rfl,by kernel_rfl,fun _=>.nil,fun _=>.nil,AiR r⟩) rfl (fun _ _=>.fnL .nil .nil) hl
 have h1:(l.map tR).length=l.length:=fH _
 unfold resOK
 rw [lR]
 generalize (l.any fun n => !goodR n)=b at *
 by_cases e:(l.length:Int)=m
 ·rw [fR e]
  refine ZEN Tryz.func236 Tryz.ntmps236 ?_
  repeat' (first|refine Bc ?_|fail)
  all_goals exact A2 Tryz.results236
 ·rw [fP e]
  refine ZEN Tryz.func236 Tryz.ntmps236 ?_
  repeat' (first|refine A0 ?_|fail)
  all_goals exact A2 Tryz.results236
theorem u5_ (c:AB) (x:AX) (hl:x.buf.length≤1152921504606846976):Cd Tryz.prog 239 [aCf c,aCh x] (bo (chanOK c.cap x)) []:=by
 have c1:=IY x.gen 0 4095
 have c2:=IY x.cap 0 c.cap
 have c3:=e9_ x.buf x.cap hl
 unfold chanOK
 generalize inI x.gen 0 4095=b1 at *
 generalize inI x.cap 0 c.cap=b2 at *
 generalize valsOK x.buf x.cap=b3 at *
 obtain ⟨g,k,u,cl,buf⟩:=x
 dsimp only at c1 c2 c3 ⊢
 have cs:b1=false∨(b1=true∧b2=false)∨(b1=true∧b2=true∧b3=false)∨(b1=true∧b2=true∧b3=true∧u=true)∨(b1=true∧b2=true∧b3=true∧u=false∧cl=true)∨(b1=true∧b2=true∧b3=true∧u=false∧cl=false ∧ ¬k=0)∨(b1=true∧b2=true∧b3=true∧u=false∧cl=false∧k=0):=by
  by_cases e:k=0<;>cases b1<;>cases b2<;>cases b3<;>cases u<;>cases cl<;>simp [e]
 rcases cs with rfl|⟨rfl,rfl⟩|⟨rfl,rfl,rfl⟩|⟨rfl,rfl,rfl,rfl⟩|⟨rfl,rfl,rfl,rfl,rfl⟩|⟨rfl,rfl,rfl,rfl,rfl,e⟩|⟨rfl,rfl,rfl,rfl,rfl,e⟩
 all_goals
  refine ZEN Tryz.func239 Tryz.ntmps239 ?_
  repeat' (first|(refine ZAL ?_;first|refine uA ?_|(first|refine uK (c1) ?_|refine uK (c2) ?_)|refine uK (c3) ?_)|refine uC ?_|fail)
  all_goals first|(exfalso;omega)|(exact Bool.noConfusion hc)|((first|exact A5 Tryz.results239|refine A7 Tryz.results239 ?_))
  all_goals first|(simp;done)|(simp [e];done)|skip
theorem ArK (k:BD):Cd Tryz.prog 132 [.agg [i64 k.dir,i64 k.handle,i64 k.value]] (bo (CO k)) []:=by
 have c1:=FM k.handle 16 65536 (by decide) (by decide)
 have c2:=FM k.value 32 4294967296 (by decide) (by decide)
 rw [PR _ _ 65535 (by decide)] at c1
 rw [PR _ _ 4294967295 (by decide)] at c2
 unfold CO
 generalize inI k.handle 0 65535=b1 at *
 generalize inI k.value 0 4294967295=b2 at *
 by_cases e1:k.dir=1<;>by_cases e2:k.dir=2
 all_goals
  cases b1<;>cases b2
  all_goals
   refine ZEN Tryz.func132 Tryz.ntmps132 ?_
   repeat' (first|refine Cl ?_|fail)
   all_goals first|(exfalso;omega)|(refine A7 Tryz.results132 ?_)
   all_goals first|(simp [*];done)|skip
def BR (q:AT):Bool:=inI q.kind 1 9&&inI q.arg 0 65535&&inI q.value 0 4294967295&&decide (q.cases.length≤3)&&q.cases.all CO
theorem ZB (l:List BD):BR ⟨3,0,0,false,l⟩=(decide (l.length≤3)&&l.all CO):=by unfold BR;rfl
theorem GK (q:AT) (hl:q.cases.length≤1152921504606846976):Cd Tryz.prog 89 [aRq q] (bo (BR q)) []:=by
 have c1:=FM q.arg 16 65536 (by decide) (by decide)
 have c2:=FM q.value 32 4294967296 (by decide) (by decide)
 rw [PR _ _ 65535 (by decide)] at c1
 rw [PR _ _ 4294967295 (by decide)] at c2
 have h1:(q.cases.map tCs).length=q.cases.length:=fH _
 obtain ⟨k,a,v,df,l⟩:=q
 unfold BR
 dsimp only at *
 generalize inI a 0 65535=b1 at *
 generalize inI v 0 4294967295=b2 at *
 by_cases k1:1≤k∧k≤9
 ·rw [show inI k 1 9=true from fR k1]
  by_cases k2:l.length≤3
  ·rw [fR k2]
   cases b1
   ·refine C0 ?_
    repeat' (first|refine A6 ?_|fail)
    all_goals exact A2 Tryz.results89
   ·cases b2
    ·refine C0 ?_
     repeat' (first|refine Cl ?_|fail)
     all_goals exact A2 Tryz.results89
    ·simp only [kM]
     refine C0 ?_
     repeat' (first|refine Cl ?_|fail)
     all_goals try exact ZE5
     refine AW.loopP (fun (i:Nat)=>i≤l.length ∧ ∀j,j<i → ∀a,l[j]? = some a→CO a=true) (fun (i:Nat)=>(pu (pu (pu (fun _=>.any) 32 (.ln (l.map tCs))) 33 (i64 (l.map tCs).length)) 34 (i64 i))) (fun (i:Nat)=>[]) (fun (i:Nat)=>l.length-i) (0) ?_ ?_ ?_
     ·exact ⟨fO _,fun j hj=>by omega⟩
     ·exact Wk.cq 0
     ·rintro i ⟨h2,h3⟩
      by_cases hi:i<l.length
      ·obtain ⟨a,ha⟩ : ∃a,l[i]? = some a:=⟨_,ZgE hi⟩
       have cA:=ArK a
       cases hv:CO a
       ·rw [hv] at cA
        have:l.all CO=false:=List.all_eq_false.2 ⟨a,fI ha,by rw [hv];decide⟩
        rw [this]
        repeat' (first|refine Du ?_|fail)
        all_goals exact A2 Tryz.results89
       ·rw [hv] at cA
        repeat' (first|refine Du ?_|fail)
        all_goals try exact ZE5
        refine ⟨i+1,⟨by omega,fun j hj b hb=>?_⟩,by omega,?_⟩
        ·by_cases e:j=i
         ·subst e;rw [ha] at hb;cases hb;exact hv
         ·exact h3 j (by omega) b hb
        ·exact Wk.cq 0
      ·have:l.all CO=true:=gY.2 fun a ha=>by
        obtain ⟨j,hj⟩:=jF ha
        exact h3 j eU a hj
       rw [this]
       repeat' (first|refine A0 ?_|fail)
       all_goals exact A2 Tryz.results89
  ·rw [fP k2,lF,jA]
   cases b1<;>cases b2
   all_goals
    refine C0 ?_
    repeat' (first|refine Cl ?_|fail)
    all_goals first|(exfalso;omega)|(exact A5 Tryz.results89)
 ·rw [show inI k 1 9=false from fP k1]
  simp only [jA]
  by_cases k2:k<1
  all_goals
   refine C0 ?_
   repeat' (first|refine A0 ?_|fail)
   all_goals first|(exfalso;omega)|(exact A5 Tryz.results89)
theorem AtH (w:AH) (hl:w.cases.length≤1152921504606846976):Cd Tryz.prog 242 [aWt w] (bo (waitOK w)) []:=by
 have h1:(w.cases.map tCs).length=w.cases.length:=fH _
 have c1:=IY w.ticket 0 4294967295
 have c2:=IY w.seq 0 1048575
 have c3:=IY (w.cases.map tCs).length 1 3
 have c4:=GK ⟨3,0,0,false,w.cases⟩ hl
 rw [ZB] at c4
 obtain ⟨on,tk,sq,l⟩:=w
 unfold waitOK
 dsimp only at *
 cases on
 ·rw [fM (by decide)]
  have hst:l=[]↔l.length=0:=mK.symm
  have cs : ¬tk=0∨(tk=0 ∧ ¬sq=0)∨(tk=0∧sq=0 ∧ ¬l.length=0)∨(tk=0∧sq=0∧l.length=0):=by omega
  clear c1 c2 c3 c4
  rcases cs with e1|⟨e1,e2⟩|⟨e1,e2,e3⟩|⟨e1,e2,e3⟩
  all_goals
   refine ZEN Tryz.func242 Tryz.ntmps242 ?_
   repeat' (first|refine A0 ?_|fail)
   all_goals first|(exfalso;omega)|(refine A7 Tryz.results242 ?_)
   all_goals first|(simp [e1];done)|(simp [e1,e2];done)|(simp [e1,e2,hst,e3];done)|skip
 ·rw [fL rfl]
  have e3:inI (l.map tCs).length 1 3=decide (1≤l.length∧l.length≤3):=by unfold inI;exact kV.2 (by omega)
  rw [e3] at c3
  generalize inI tk 0 4294967295=b1 at *
  generalize inI sq 0 1048575=b2 at *
  by_cases k:1≤l.length∧l.length≤3
  ·rw [fR k] at c3 ⊢
   rw [fR k.2,kM] at c4
   generalize l.all CO=b4 at *
   have cs:b1=false∨(b1=true∧b2=false)∨(b1=true∧b2=true):=by cases b1<;>cases b2<;>simp
   rcases cs with rfl|⟨rfl,rfl⟩|⟨rfl,rfl⟩
   all_goals
    refine ZEN Tryz.func242 Tryz.ntmps242 ?_
    repeat' (first|(refine ZAL ?_;first|refine uA ?_|(first|refine uK (c1) ?_|refine uK (c2) ?_|refine uK (c3) ?_)|refine uK (c4) ?_)|refine uC ?_|fail)
    all_goals first|(exfalso;omega)|(exact Bool.noConfusion hc)|(exact A5 Tryz.results242)
    all_goals first|(simp;done)|skip
  ·rw [fP k] at c3 ⊢
   rw [lF,jA]
   have cs:b1=false∨(b1=true∧b2=false)∨(b1=true∧b2=true):=by cases b1<;>cases b2<;>simp
   rcases cs with rfl|⟨rfl,rfl⟩|⟨rfl,rfl⟩
   all_goals
    refine ZEN Tryz.func242 Tryz.ntmps242 ?_
    repeat' (first|refine Ep ?_|fail)
    all_goals first|(exfalso;omega)|(exact Bool.noConfusion hc)|(exact A5 Tryz.results242)
    all_goals first|(simp;done)|skip
theorem AiS (c:AB) (x:AX) (hl:x.buf.length≤1152921504606846976):Cd Tryz.prog 238 [.agg ((tCh x).map .t),.lp [i64 c.kind,i64 c.threads,i64 c.chans,i64 c.cap,i64 c.nodes,i64 c.retire,i64 c.patience,i64 c.tags,i64 c.seqs,i64 c.gens,.ln (c.start.map tI)]] (bo (!chanOK c.cap x)) []:=by
 have c1:=u5_ c x hl
 generalize chanOK c.cap x=b at c1
 show Cd Tryz.prog 238 [.agg [i64 x.gen,i64 x.cap,bo x.used,bo x.closed,.t (.lst (x.buf.map tI))],_] _ _
 refine ZEN Tryz.func238 Tryz.ntmps238 ?_
 repeat' (first|refine A6 ?_|fail)
 all_goals exact A2 Tryz.results238
theorem AiT (w:AH) (hl:w.cases.length≤1152921504606846976):Cd Tryz.prog 241 [.agg ((tWt w).map .t)] (bo (!waitOK w)) []:=by
 have c1:=AtH w hl
 generalize waitOK w=b at c1
 show Cd Tryz.prog 241 [.agg [bo w.on,i64 w.ticket,i64 w.seq,.t (.lst (w.cases.map tCs))]] _ _
 refine ZEN Tryz.func241 Tryz.ntmps241 ?_
 repeat' (first|refine A6 ?_|fail)
 all_goals exact A2 Tryz.results241
structure okH (h:AM):Prop where
 c:h.chans.length≤1152921504606846976
 b : ∀x∈h.chans,x.buf.length≤1152921504606846976
 w:h.waits.length≤1152921504606846976
 k : ∀x∈h.waits,x.cases.length≤1152921504606846976
 d:h.done.length≤1152921504606846976
theorem AiU (c:AB) (h:AM) (hs:c.start.length≤1152921504606846976) (hh:okH h):Cd Tryz.prog 206 [aCf c,aHl h] (bo (DS c h)) []:=by
 have cF:=AiL 238 [] [.lp [i64 c.kind,i64 c.threads,i64 c.chans,i64 c.cap,i64 c.nodes,i64 c.retire,i64 c.patience,i64 c.tags,i64 c.seqs,i64 c.gens,.ln (c.start.map tI)]] (fun x => !chanOK c.cap x) h.chans
  (fun x hx=>⟨_,_,[],[.lp [i64 c.kind,i64 c.threads,i64 c.chans,i64 c.cap,i64 c.nodes,i64 c.retire,i64 c.patience,i64 c.tags,i64 c.seqs,i64 c.gens,.ln (c.start.map tI)]],rfl,Tryz.func238,by kernel_rfl,by kernel_rfl,fun _=>.nil,fun _=>.cons (.lpL (by repeat (first|exact .nil|refine .cons ?_ ?_|exact .t _|exact .ln _))) .nil,AiS c x (hh.b x hx)⟩) rfl
  (fun _ _=>.fnL .nil (.cons (.lpL (by repeat (first|exact .nil|refine .cons ?_ ?_|exact .t _|exact .ln _))) .nil)) hh.c
 have cW:=AiN 241 [] [] (fun x => !waitOK x) h.waits (fun x hx=>⟨_,_,[],[],rfl,Tryz.func241,by kernel_rfl,by kernel_rfl,fun _=>.nil,fun _=>.nil,AiT x (hh.k x hx)⟩) rfl (fun _ _=>.fnL .nil .nil) hh.w
 have c1:=EH c hs
 have c2:=IY h.ticket 0 4294967295
 have c3:=AcH h.done c.threads hh.d
 have h1:(h.chans.map tCh).length=h.chans.length:=fH _
 have h2:(h.waits.map tWt).length=h.waits.length:=fH _
 unfold DS
 rw [lR,lR]
 generalize (h.chans.any fun x => !chanOK c.cap x)=b5 at *
 generalize (h.waits.any fun x => !waitOK x)=b6 at *
 generalize inI h.ticket 0 4294967295=b2 at *
 generalize resOK h.done c.threads=b3 at *
 cases hk:AY c
 ·rw [hk] at c1
  simp only [jA]
  refine ZEN Tryz.func206 Tryz.ntmps206 ?_
  repeat' (first|refine A6 ?_|fail)
  all_goals exact A2 Tryz.results206
 ·rw [hk] at c1
  have cs : ¬c.kind=3∨(c.kind=3∧b2=false)∨(c.kind=3∧b2=true ∧ ¬(h.chans.length:Int)=c.chans)∨(c.kind=3∧b2=true∧(h.chans.length:Int)=c.chans ∧ ¬(h.waits.length:Int)=c.threads)∨(c.kind=3∧b2=true∧(h.chans.length:Int)=c.chans∧(h.waits.length:Int)=c.threads∧b3=false)∨(c.kind=3∧b2=true∧(h.chans.length:Int)=c.chans∧(h.waits.length:Int)=c.threads∧b3=true∧b5=true)∨(c.kind=3∧b2=true∧(h.chans.length:Int)=c.chans∧(h.waits.length:Int)=c.threads∧b3=true∧b5=false∧b6=true)∨(c.kind=3∧b2=true∧(h.chans.length:Int)=c.chans∧(h.waits.length:Int)=c.threads∧b3=true∧b5=false∧b6=false):=by
   by_cases e1:c.kind=3<;>by_cases e2:(h.chans.length:Int)=c.chans<;>by_cases e3:(h.waits.length:Int)=c.threads<;>cases b2<;>cases b3<;>cases b5<;>cases b6<;>simp [e1,e2,e3]
  rcases cs with e1|⟨e1,rfl⟩|⟨e1,rfl,e2⟩|⟨e1,rfl,e2,e3⟩|⟨e1,rfl,e2,e3,rfl⟩|⟨e1,rfl,e2,e3,rfl,rfl⟩|⟨e1,rfl,e2,e3,rfl,rfl,rfl⟩|⟨e1,rfl,e2,e3,rfl,rfl,rfl⟩
  all_goals
   refine ZEN Tryz.func206 Tryz.ntmps206 ?_
   repeat' (first|(refine ZAL ?_;first|refine uA ?_|refine uK (c1) ?_|refine uK (c2) ?_|refine uK (c3) ?_|refine uK (cF) ?_|refine uK (cW) ?_)|refine uC ?_|fail)
   all_goals first|(exfalso;omega)|(exact Bool.noConfusion hc)|(refine A7 Tryz.results206 ?_)
   all_goals first|(simp [e1];done)|(simp [e1,e2];done)|(simp [e1,e2,e3];done)|skip
theorem AiV (c:AB) (x:CL) (hs:c.start.length≤1152921504606846976) (h1:x.list.length≤1152921504606846976) (h2:x.done.length≤1152921504606846976):Cd Tryz.prog 211 [aCf c,aCl x] (bo (DT c x)) []:=by
 have c1:=EH c hs
 have c2:=e9_ x.list c.cap h1
 have c3:=AcH x.done c.threads h2
 unfold DT
 generalize valsOK x.list c.cap=b2 at *
 generalize resOK x.done c.threads=b3 at *
 cases hk:AY c
 ·rw [hk] at c1
  simp only [jA]
  refine ZEN Tryz.func211 Tryz.ntmps211 ?_
  repeat' (first|refine A6 ?_|fail)
  all_goals exact A2 Tryz.results211
 ·rw [hk] at c1
  have cs:c.kind=3∨(¬c.kind=3 ∧ ¬x.cap=c.cap)∨(¬c.kind=3∧x.cap=c.cap∧b2=false)∨(¬c.kind=3∧x.cap=c.cap∧b2=true∧b3=false)∨(¬c.kind=3∧x.cap=c.cap∧b2=true∧b3=true):=by
   by_cases e1:c.kind=3<;>by_cases e2:x.cap=c.cap<;>cases b2<;>cases b3<;>simp [e1,e2]
  rcases cs with e1|⟨e1,e2⟩|⟨e1,e2,rfl⟩|⟨e1,e2,rfl,rfl⟩|⟨e1,e2,rfl,rfl⟩
  all_goals
   refine ZEN Tryz.func211 Tryz.ntmps211 ?_
   repeat' (first|(refine ZAL ?_;first|refine uA ?_|refine uK (c1) ?_|refine uK (c2) ?_|refine uK (c3) ?_)|refine uC ?_|fail)
   all_goals first|(exfalso;omega)|(exact Bool.noConfusion hc)|(refine A7 Tryz.results211 ?_)
   all_goals first|(simp [e1];done)|(simp [e1,e2];done)|skip
section
attribute [local simp] CW
theorem s9_ {l:List Int} {n:Nat} (h:l.length≤n):CQ l n=l++List.replicate (n-l.length) 0:=by
 refine iI fun i=>?_
 by_cases hi:i<n
 ·rw [f3_ l hi,fK]
  by_cases hl:i<l.length
  ·rw [fZ hl,ZgE hl];rfl
  ·rw [fV (by omega),mM,fL (by omega),gL (by omega)];rfl
 ·rw [gL bA,gL bA]
theorem ApH (l:List Int) (n k m:Nat) (o:List Int) (hm:m=o.length) (hv : ∀x∈l,0≤x∧x≤4294967295) (hl:l.length≤1000000) (hb:o.length+n≤1000000) :
  Cio Tryz.prog 207 [.sl 0 k m,.ln (l.map tI),i64 n] [.row k 46 1 (o.map tU)] (.sl 0 (k+n) (m+n)) [.row (k+n) 46 1 ((o++CQ l n).map tU)]:=by
 subst hm
 have h1:(l.map tI).length=l.length:=fH _
 refine ZEN Tryz.func207 Tryz.ntmps207 ?_
 repeat' (first|refine A0 ?_|fail)
 refine AW.loopP (fun (i:Nat)=>i≤n) (fun (i:Nat)=>(pu (pu (pu (pu (fun _=>.any) 0 (.sl 0 (k+i) (o.length+i))) 1 (.ln (l.map tI))) 9 (i64 n)) 10 (i64 i))) (fun (i:Nat)=>[.row (k+i) 46 1 ((o++CQ l i).map tU)]) (fun (i:Nat)=>n-i) (0) ?_ ?_ ?_
 ·exact fO _
 ·rw [show o++CQ l 0=o by simp [CQ]]
  exact Wk.cq 1
 ·intro i h2
  have hL:(o++CQ l i).length=o.length+i:=by simp
  by_cases hi:i<n
  ·by_cases hj:i<l.length
   ·obtain ⟨a,ha⟩ : ∃a,l[i]? = some a:=⟨_,ZgE hj⟩
    have hva:=hv a (fI ha)
    have hs:o++CQ l (i+1)=(o++CQ l i)++[a]:=by rw [VM,fK,ha,fS];rfl
    repeat' (first|refine Dv ?_|fail)
    all_goals try exact ZE5
    refine ⟨i+1,by omega,by omega,?_⟩
    rw [hs]
    exact Wk.cq 1
   ·have hs:o++CQ l (i+1)=(o++CQ l i)++[0]:=by rw [VM,fK,gL (by omega),fS];rfl
    repeat' (first|refine Dv ?_|fail)
    all_goals try exact ZE5
    refine ⟨i+1,by omega,by omega,?_⟩
    rw [hs]
    exact Wk.cq 1
  ·obtain rfl:i=n:=by omega
   repeat' (first|refine A0 ?_|fail)
   all_goals exact A2 Tryz.results207
theorem AcF (l:List Int) (cap:Int) (n k m:Nat) (o:List Int) (hc:cap=n) (hm:m=o.length) (hv : ∀x∈l,0≤x∧x≤4294967295) (hl:l.length≤1000000) (hb:o.length+n≤1000000) :
  Cio Tryz.prog 207 [.sl 0 k m,.ln (l.map tI),i64 cap] [.row k 46 1 (o.map tU)] (.sl 0 (k+n) (m+n)) [.row (k+n) 46 1 ((o++CQ l n).map tU)]:=by subst hc;exact ApH l n k m o hm hv hl hb
theorem QR (l:List Rst) (k m:Nat) (o:List Int) (hm:m=o.length) (hl:l.length≤1000000) (hb:o.length+l.length≤1000000) :
  Cio Tryz.prog 210 [.sl 0 k m,.ln (l.map tR)] [.row k 46 1 (o.map tU)] (.sl 0 (k+l.length) (m+l.length)) [.row (k+l.length) 46 1 ((o++l.map wordR).map tU)]:=by
 subst hm
 have h1:(l.map tR).length=l.length:=fH _
 refine ZEN Tryz.func210 Tryz.ntmps210 ?_
 repeat' (first|refine A0 ?_|fail)
 refine AW.loopP (fun (i:Nat)=>i≤l.length) (fun (i:Nat)=>(pu (pu (pu (pu (fun _=>.any) 0 (.sl 0 (k+i) (o.length+i))) 7 (.ln (l.map tR))) 8 (i64 (l.map tR).length)) 9 (i64 i))) (fun (i:Nat)=>[.row (k+i) 46 1 ((o++(l.take i).map wordR).map tU)]) (fun (i:Nat)=>l.length-i) (0) ?_ ?_ ?_
 ·exact fO _
 ·rw [show o++(l.take 0).map wordR=o by simp]
  exact Wk.cq 1
 ·intro i h2
  have hL:(o++(l.take i).map wordR).length=o.length+i:=by simp;omega
  by_cases hi:i<l.length
  ·obtain ⟨a,ha⟩ : ∃a,l[i]? = some a:=⟨_,ZgE hi⟩
   have hs:o++(l.take (i+1)).map wordR=(o++(l.take i).map wordR)++[wordR a]:=by rw [iG,ha];simp
   repeat' (first|(refine ZAL ?_;first|refine Cm ?_|refine uA ?_|refine uK (NX a) ?_)|refine uC ?_|fail)
   all_goals try exact ZE5
   refine ⟨i+1,by omega,by omega,?_⟩
   rw [hs]
   exact Wk.cq 1
  ·obtain rfl:i=l.length:=by omega
   repeat' (first|refine A0 ?_|fail)
   all_goals first|(exfalso;omega)|((refine A8 Tryz.results210 ?_ ?_ ?_<;>repeat' (first|exact ZE1|refine ZE2 ?_ ?_|refine ZE3 ?_|exact ZE4|fail)))
   all_goals (rw [jT])
theorem g9_ (b:Bool):Cd Tryz.prog 209 [bo b] (u64 (IX b)) []:=by
 cases b
 all_goals
  refine ZEN Tryz.func209 Tryz.ntmps209 ?_
  repeat' (first|refine A0 ?_|fail)
  all_goals (exact A5 Tryz.results209)
theorem ApR (x:AX) (cap:Int) (hc:cap≤15) (h:chanOK cap x=true):Cd Tryz.prog 208 [aCh x] (u64 (FI x)) []:=by
 obtain ⟨h1,h2,⟨h3,h4⟩,_⟩:=BC.1 h
 have g1:(x.buf.map tI).length=x.buf.length:=fH _
 have b1:=HV x.used
 have b2:=HV x.closed
 have c1:=g9_ x.used
 have c2:=g9_ x.closed
 unfold FI
 refine ZEN Tryz.func208 Tryz.ntmps208 ?_
 repeat' (first|refine uA ?_|(refine ZRG ?_;first|(refine kR 1481 rfl ?_;first|refine R_shl rfl rfl 46 159 _ _ rfl rfl rfl (by decide) (shl_lit (m:=4096) rfl eY) ?_|refine R_bits rfl rfl .or 46 46 _ _ rfl rfl rfl rfl (or_sum' 12 (M:=4096) rfl (by omega) (by omega) (by omega) (by omega) (by omega) (by omega)) ?_|refine R_bits rfl rfl .or 46 46 _ _ rfl rfl rfl rfl (or_sum' 16 (M:=65536) rfl (by omega) (by omega) (by omega) (by omega) (by omega) (by omega)) ?_|refine R_bits rfl rfl .or 46 46 _ _ rfl rfl rfl rfl (or_sum' 17 (M:=131072) rfl (by omega) (by omega) (by omega) (by omega) (by omega) (by omega)) ?_|refine R_bits rfl rfl .or 46 46 _ _ rfl rfl rfl rfl (or_sum' 20 (M:=1048576) rfl (by omega) (by omega) (by omega) (by omega) (by omega) (by omega)) ?_|refine R_shl rfl rfl 46 159 _ _ rfl rfl rfl (by decide) (shl_lit (m:=65536) rfl eY) ?_|refine R_shl rfl rfl 46 159 _ _ rfl rfl rfl (by decide) (shl_lit (m:=131072) rfl eY) ?_|refine R_shl rfl rfl 46 159 _ _ rfl rfl rfl (by decide) (shl_lit (m:=1048576) rfl eY) ?_)|refine uR ?_|(first|refine uQ (c1) 0 ?_|refine uQ (c2) 0 ?_))|refine uC ?_|refine AW.drawU (id:=1) mixed 0 qR ?_|fail)
 all_goals first|(exfalso;omega)|(refine A7 Tryz.results208 ?_)
 all_goals (refine congrArg (fun z=>Tr.v (Value.int IntKind.u64 z)) ?_;omega)
def KK (q:AT) (ph:Int):List Int:=(q.kind+256*q.cases.length+65536*q.arg+4294967296*q.value)::(CQ (q.cases.map wordK) 3++[ph])
theorem LS {q:AT}:BR q=true↔(1≤q.kind∧q.kind≤9)∧(0≤q.arg∧q.arg≤65535)∧(0≤q.value∧q.value≤4294967295)∧q.cases.length≤3 ∧ ∀k∈q.cases,CO k=true:=by
 unfold BR;simp only [fX,gE,gY,CB,mS]
def ES (hd:Int) (l:List BD) (i:Nat):List Int:=hd::(l.take i).map wordK
def ET (hd:Int) (l:List BD) (j:Nat):List Int:=hd::(l.map wordK++List.replicate j 0)
theorem p6_ (q:AT) (ph:Int) (hq:BR q=true) (hd:q.dflt=false) (hp:0≤ph∧ph≤4294967295):Cd Tryz.prog 182 [aRq q,i64 ph] (.t (.lst ((KK q ph).map tU))) []:=by
 obtain ⟨g1,g2,g3,g4,g5⟩:=LS.1 hq
 have c1:=GK q (by omega)
 rw [hq] at c1
 have c2:=FM ph 32 4294967296 (by decide) (by decide)
 rw [show fitI ph 4294967296=true from fR (by omega)] at c2
 have h1:(q.cases.map tCs).length=q.cases.length:=fH _
 unfold KK
 rw [s9_ (by simpa using g4),fH]
 obtain ⟨kd,ar,vl,df,l⟩:=q
 dsimp only at *
 subst hd
 generalize hH:kd+256*(l.length:Int)+65536*ar+4294967296*vl=hd0
 have hH2:kd+((l.map tCs).length:Int)*256+ar*65536+vl*4294967296=hd0:=by omega
 refine ZEN Tryz.func182 Tryz.ntmps182 ?_
 repeat' (first|(refine ZAL ?_;first|(refine kL 1481 rfl ?_;first|refine A_shl rfl rfl 46 159 _ _ rfl rfl rfl (by decide) (shl_lit (m:=256) rfl eY) ?_|refine A_bits rfl rfl .or 46 46 _ _ rfl rfl rfl rfl (or_sum' 8 (M:=256) rfl (by omega) (by omega) (by omega) (by omega) (by omega) (by omega)) ?_|refine A_bits rfl rfl .or 46 46 _ _ rfl rfl rfl rfl (or_sum' 16 (M:=65536) rfl (by omega) (by omega) (by omega) (by omega) (by omega) (by omega)) ?_|refine A_bits rfl rfl .or 46 46 _ _ rfl rfl rfl rfl (or_sum' 32 (M:=4294967296) rfl (by omega) (by omega) (by omega) (by omega) (by omega) (by omega)) ?_|refine A_shl rfl rfl 46 159 _ _ rfl rfl rfl (by decide) (shl_lit (m:=65536) rfl eY) ?_|refine A_shl rfl rfl 46 159 _ _ rfl rfl rfl (by decide) (shl_lit (m:=4294967296) rfl eY) ?_)|refine Cm ?_|refine uA ?_|refine uK (c1) ?_|refine uK (c2) ?_)|refine uC ?_|fail)
 all_goals try exact ZE5
 refine AW.loopP (fun (i:Nat)=>i≤l.length) (fun (i:Nat)=>(pu (pu (pu (pu (pu (fun _=>.any) 1 (i64 ph)) 6 (.sl 1 i (1+i))) 43 (.ln (l.map tCs))) 44 (i64 (l.map tCs).length)) 45 (i64 i))) (fun (i:Nat)=>[.box 32 [i64 kd,i64 ar,i64 vl,bo false,.ln (l.map tCs)],.row i 46 1 ((ES hd0 l i).map tU)]) (fun (i:Nat)=>l.length-i) (0) ?_ ?_ ?_
 ·exact fO _
 ·rw [show ES hd0 l 0=[hd0] from rfl, ←hH2]
  exact Wk.cq 2
 ·intro i h2
  have hL:(ES hd0 l i).length=1+i:=by simp [ES];omega
  by_cases hi:i<l.length
  ·obtain ⟨a,ha⟩ : ∃a,l[i]? = some a:=⟨_,ZgE hi⟩
   have hk:=EU.1 (g5 a (fI ha))
   have hw:wordK a=a.dir+a.handle*256+a.value*4294967296:=by unfold wordK;omega
   have hs:ES hd0 l (i+1)=ES hd0 l i++[a.dir+a.handle*256+a.value*4294967296]:=by unfold ES;rw [iG,ha, ←hw];simp
   repeat' (first|(refine ZAL ?_;first|(refine kL 1481 rfl ?_;first|refine A_shl rfl rfl 46 159 _ _ rfl rfl rfl (by decide) (shl_lit (m:=256) rfl eY) ?_|refine A_bits rfl rfl .or 46 46 _ _ rfl rfl rfl rfl (or_sum' 8 (M:=256) rfl (by omega) (by omega) (by omega) (by omega) (by omega) (by omega)) ?_|refine A_bits rfl rfl .or 46 46 _ _ rfl rfl rfl rfl (or_sum' 32 (M:=4294967296) rfl (by omega) (by omega) (by omega) (by omega) (by omega) (by omega)) ?_|refine A_shl rfl rfl 46 159 _ _ rfl rfl rfl (by decide) (shl_lit (m:=4294967296) rfl eY) ?_)|refine Cm ?_|refine uA ?_)|refine uC ?_|fail)
   all_goals try exact ZE5
   refine ⟨i+1,by omega,by omega,?_⟩
   rw [hs]
   exact Wk.cq 2
  ·obtain rfl:i=l.length:=by omega
   repeat' (first|refine A0 ?_|fail)
   all_goals try exact ZE5
   refine AW.loopP (fun (j:Nat)=>l.length+j≤3) (fun (j:Nat)=>(pu (pu (fun _=>.any) 1 (i64 ph)) 6 (.sl 1 (l.length+j) (1+l.length+j)))) (fun (j:Nat)=>[.box 32 [i64 kd,i64 ar,i64 vl,bo false,.ln (l.map tCs)],.row (l.length+j) 46 1 ((ET hd0 l j).map tU)]) (fun (j:Nat)=>3-j) (0) ?_ ?_ ?_
   ·omega
   ·rw [show ET hd0 l 0=ES hd0 l l.length by simp [ES,ET]]
    exact Wk.cq 2
   ·intro j h3
    have hL2:(ET hd0 l j).length=1+l.length+j:=by simp [ET];omega
    by_cases hj:l.length+j<3
    ·have hs:ET hd0 l (j+1)=ET hd0 l j++[0]:=by unfold ET;rw [lK];simp
     repeat' (first|refine Dv ?_|fail)
     all_goals try exact ZE5
     refine ⟨j+1,by omega,by omega,?_⟩
     rw [hs]
     exact Wk.cq 2
    ·obtain rfl:j=3-l.length:=by omega
     repeat' (first|refine F8 ?_|refine uS 12 (fun hb=>?_) (fun hb=>?_)|refine ZK2 (fun hc=>?_) (fun hc=>?_)|fail)
     all_goals first|(exfalso;omega)|(exact A5 Tryz.results182)
     all_goals (simp [ET];done)
end
end
theorem YA {l:List Int} {n:Nat} (h:okU l):okU (CQ l n):=by
 intro w hw
 obtain ⟨i,_,rfl⟩:=iP.1 hw
 rw [fK]
 cases hx:l[i]? with
 |none=>decide
 |some a=>exact h a (fI hx)
theorem AfV (l:List Rst):okU (l.map wordR):=by
 intro w hw
 obtain ⟨r,_,rfl⟩:=iP.1 hw
 exact QH r
theorem AfP (c:AB) (h:AM):okU (putH c h):=by
 cases hf:DS c h
 ·unfold putH;rw [hf];intro w hw;cases hw
 ·obtain ⟨h0,h1,h2,h3,h4,h5,h7,h8⟩:=DI.1 hf
  have hs:=AJ h0
  have hb:=hs.h3 h1
  intro w hw
  unfold putH at hw
  rw [fL hf] at hw
  rcases iE.1 hw with rfl|hw
  ·omega
  rcases gJ.1 hw with hw|hw
  ·obtain ⟨x,hx,hw⟩:=List.mem_flatMap.1 hw
   obtain ⟨g1,g2,⟨g3,g4⟩,_⟩:=BC.1 (h7 x hx)
   rcases iE.1 hw with rfl|hw
   ·have:=HV x.used;have:=HV x.closed;unfold FI;omega
   ·exact YA (fun y hy=>by have:=g4 y hy;omega) w hw
  rcases gJ.1 hw with hw|hw
  ·obtain ⟨x,hx,hw⟩:=List.mem_flatMap.1 hw
   obtain ⟨g1,g2,g3,g4⟩:=FB (h8 x hx)
   rcases iE.1 hw with rfl|hw
   ·have:=HV x.on;unfold HH;omega
   ·refine YA (fun y hy=>?_) w hw
    obtain ⟨k,hk,rfl⟩:=iP.1 hy
    exact AmN (g4 k hk)
  ·exact AfV _ w hw
theorem AfR (c:AB) (x:CL):okU (putX c x):=by
 cases hf:DT c x
 ·unfold putX;rw [hf];intro w hw;cases hw
 ·obtain ⟨h0,h1,h2,⟨h3,h4⟩,_⟩:=DM.1 hf
  have hs:=AJ h0
  have hb:=hs.h1 h1
  intro w hw
  unfold putX at hw
  rw [fL hf] at hw
  rcases iE.1 hw with rfl|hw
  ·omega
  rcases gJ.1 hw with hw|hw
  ·exact YA (fun y hy=>by have:=h4 y hy;omega) w hw
  ·exact AfV _ w hw
end Go.Proofs.YtccefppppedgkaaGreat
