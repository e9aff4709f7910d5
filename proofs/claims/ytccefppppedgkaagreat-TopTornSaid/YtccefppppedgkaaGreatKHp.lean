/- Joined: XTFits, XTPut. -/
import Derived.Test.YtccefppppedgkaaGreatKHk
set_option linter.unusedVariables false
set_option linter.unusedSimpArgs false
set_option linter.unnecessarySimpa false
set_option maxRecDepth 100000
set_option maxHeartbeats 64000000
namespace Go.Proofs.YtccefppppedgkaaGreat
open Go.RowKit
section
attribute [local irreducible] AL AW RG Fin C Cd Cio AI AF AO
theorem QQ (n M m:Int) (h:M=m+1):fitI n M=inI n 0 m:=by unfold fitI inI;exact kJ.2 (by omega)
theorem AbZ (n:Int):Cd Tryz.prog 260 [i64 n] (bo (!inI n 0 4294967295)) []:=by
 have c1:=JL n 0 4294967295
 generalize inI n 0 4294967295=b at c1
 refine ZEN Tryz.func260 Tryz.ntmps260 ?_
 repeat' (first|refine A7 ?_|fail)
 all_goals exact A2 Tryz.results260
theorem AkV (r:Rst):Cd Tryz.prog 257 [aR r] (bo (!goodR r)) []:=by
 have c1:=u4_ r
 generalize goodR r=b at c1
 refine ZEN Tryz.func257 Tryz.ntmps257 ?_
 repeat' (first|refine A7 ?_|fail)
 all_goals exact A2 Tryz.results257
theorem i8_ (l:List Int) (m:Int) (hl:l.length≤1152921504606846976):Cd Tryz.prog 243 [.ln (l.map tI),i64 m] (bo (valsOK l m)) []:=by
 have cF:=q8_ 260 [] [] (fun n => !inI n 0 4294967295) l (fun n _=>⟨_,_,[],[],rfl,Tryz.func260,by kernel_rfl,by kernel_rfl,fun _=>.nil,fun _=>.nil,AbZ n⟩) rfl (fun _ _=>.fnL .nil .nil) hl
 have h1:(l.map tI).length=l.length:=fN _
 unfold valsOK
 rw [mE]
 generalize (l.any fun n => !inI n 0 4294967295)=b at *
 by_cases e:(l.length:Int)≤m
 ·rw [fW e]
  refine ZEN Tryz.func243 Tryz.ntmps243 ?_
  repeat' (first|refine Bm ?_|fail)
  all_goals exact A2 Tryz.results243
 ·rw [fZ e]
  refine ZEN Tryz.func243 Tryz.ntmps243 ?_
  repeat' (first|refine A0 ?_|fail)
  all_goals exact A2 Tryz.results243
theorem AeG (l:List Rst) (m:Int) (hl:l.length≤1152921504606846976):Cd Tryz.prog 236 [.ln (l.map tR),i64 m] (bo (resOK l m)) []:=by
 have cF:=AkQ 257 [] [] (fun r => !goodR r) l (fun r _=>⟨_,_,[],[],rfl,Tryz.func257,by kernel_rfl,by kernel_rfl,fun _=>.nil,fun _=>.nil,AkV r⟩) rfl (fun _ _=>.fnL .nil .nil) hl
 have h1:(l.map tR).length=l.length:=fN _
 unfold resOK
 rw [mE]
 generalize (l.any fun n => !goodR n)=b at *
 by_cases e:(l.length:Int)=m
 ·rw [fW e]
  refine ZEN Tryz.func236 Tryz.ntmps236 ?_
  repeat' (first|refine Bm ?_|fail)
  all_goals exact A2 Tryz.results236
 ·rw [fZ e]
  refine ZEN Tryz.func236 Tryz.ntmps236 ?_
  repeat' (first|refine A0 ?_|fail)
  all_goals exact A2 Tryz.results236
theorem z5_ (c:AB) (x:AY) (hl:x.buf.length≤1152921504606846976):Cd Tryz.prog 239 [aCf c,aCh x] (bo (chanOK c.cap x)) []:=by
 have c1:=JL x.gen 0 4095
 have c2:=JL x.cap 0 c.cap
 have c3:=i8_ x.buf x.cap hl
 unfold chanOK
 generalize inI x.gen 0 4095=b1 at *
 generalize inI x.cap 0 c.cap=b2 at *
 generalize valsOK x.buf x.cap=b3 at *
 obtain ⟨g,k,u,cl,buf⟩:=x
 dsimp only at c1 c2 c3 ⊢
 have cs:b1=false∨(b1=true∧b2=false)∨(b1=true∧b2=true∧b3=false)∨(b1=true∧b2=true∧b3=true∧u=true)∨(b1=true∧b2=true∧b3=true∧u=false∧cl=true)∨(b1=true∧b2=true∧b3=true∧u=false∧cl=false ∧ ¬k=0)∨(b1=true∧b2=true∧b3=true∧u=false∧cl=false∧k=0):=by
  by_cases e:k=0<;>cases b1<;>cases b2<;>cases b3<;>cases u<;>cases cl<;>simp [e]
 rcases cs with rfl|⟨rfl,rfl⟩|⟨rfl,rfl,rfl⟩|⟨rfl,rfl,rfl,rfl⟩|⟨rfl,rfl,rfl,rfl,rfl⟩|⟨rfl,rfl,rfl,rfl,rfl,e⟩|⟨rfl,rfl,rfl,rfl,rfl,e⟩
 all_goals
  refine ZEN Tryz.func239 Tryz.ntmps239 ?_
  repeat' (first|(refine ZAL ?_;first|refine uA ?_|(first|refine uK (c1) ?_|refine uK (c2) ?_)|refine uK (c3) ?_)|refine uC ?_|fail)
  all_goals first|(exfalso;omega)|(exact Bool.noConfusion hc)|((first|exact A6 Tryz.results239|refine A5 Tryz.results239 ?_))
  all_goals first|(simp;done)|(simp [e];done)|skip
theorem AtY (k:BF):Cd Tryz.prog 132 [.agg [i64 k.dir,i64 k.handle,i64 k.value]] (bo (CT k)) []:=by
 have c1:=FX k.handle 16 65536 (by decide) (by decide)
 have c2:=FX k.value 32 4294967296 (by decide) (by decide)
 rw [QQ _ _ 65535 (by decide)] at c1
 rw [QQ _ _ 4294967295 (by decide)] at c2
 unfold CT
 generalize inI k.handle 0 65535=b1 at *
 generalize inI k.value 0 4294967295=b2 at *
 by_cases e1:k.dir=1<;>by_cases e2:k.dir=2
 all_goals
  cases b1<;>cases b2
  all_goals
   refine ZEN Tryz.func132 Tryz.ntmps132 ?_
   repeat' (first|refine Ct ?_|fail)
   all_goals first|(exfalso;omega)|(refine A5 Tryz.results132 ?_)
   all_goals first|(simp [*];done)|skip
def BR (q:AU):Bool:=inI q.kind 1 9&&inI q.arg 0 65535&&inI q.value 0 4294967295&&decide (q.cases.length≤3)&&q.cases.all CT
theorem b3_ (l:List BF):BR ⟨3,0,0,false,l⟩=(decide (l.length≤3)&&l.all CT):=by unfold BR;rfl
theorem GS (q:AU) (hl:q.cases.length≤1152921504606846976):Cd Tryz.prog 89 [aRq q] (bo (BR q)) []:=by
 have c1:=FX q.arg 16 65536 (by decide) (by decide)
 have c2:=FX q.value 32 4294967296 (by decide) (by decide)
 rw [QQ _ _ 65535 (by decide)] at c1
 rw [QQ _ _ 4294967295 (by decide)] at c2
 have h1:(q.cases.map tCs).length=q.cases.length:=fN _
 obtain ⟨k,a,v,df,l⟩:=q
 unfold BR
 dsimp only at *
 generalize inI a 0 65535=b1 at *
 generalize inI v 0 4294967295=b2 at *
 by_cases k1:1≤k∧k≤9
 ·rw [show inI k 1 9=true from fW k1]
  by_cases k2:l.length≤3
  ·rw [fW k2]
   cases b1
   ·refine C9 ?_
    repeat' (first|refine A7 ?_|fail)
    all_goals exact A2 Tryz.results89
   ·cases b2
    ·refine C9 ?_
     repeat' (first|refine Ct ?_|fail)
     all_goals exact A2 Tryz.results89
    ·simp only [kM]
     refine C9 ?_
     repeat' (first|refine Ct ?_|fail)
     all_goals try exact ZE5
     refine AW.loopP (fun (i:Nat)=>i≤l.length ∧ ∀j,j<i → ∀a,l[j]? = some a→CT a=true) (fun (i:Nat)=>(pu (pu (pu (fun _=>.any) 32 (.ln (l.map tCs))) 33 (i64 (l.map tCs).length)) 34 (i64 i))) (fun (i:Nat)=>[]) (fun (i:Nat)=>l.length-i) (0) ?_ ?_ ?_
     ·exact ⟨fX _,fun j hj=>by omega⟩
     ·exact Wk.cq 0
     ·rintro i ⟨h2,h3⟩
      by_cases hi:i<l.length
      ·obtain ⟨a,ha⟩ : ∃a,l[i]? = some a:=⟨_,ZgE hi⟩
       have cA:=AtY a
       cases hv:CT a
       ·rw [hv] at cA
        have:l.all CT=false:=List.all_eq_false.2 ⟨a,fO ha,by rw [hv];decide⟩
        rw [this]
        repeat' (first|refine E4 ?_|fail)
        all_goals exact A2 Tryz.results89
       ·rw [hv] at cA
        repeat' (first|refine E4 ?_|fail)
        all_goals try exact ZE5
        refine ⟨i+1,⟨by omega,fun j hj b hb=>?_⟩,by omega,?_⟩
        ·by_cases e:j=i
         ·subst e;rw [ha] at hb;cases hb;exact hv
         ·exact h3 j (by omega) b hb
        ·exact Wk.cq 0
      ·have:l.all CT=true:=iI.2 fun a ha=>by
        obtain ⟨j,hj⟩:=jN ha
        exact h3 j eY a hj
       rw [this]
       repeat' (first|refine A0 ?_|fail)
       all_goals exact A2 Tryz.results89
  ·rw [fZ k2,kE,jH]
   cases b1<;>cases b2
   all_goals
    refine C9 ?_
    repeat' (first|refine Ct ?_|fail)
    all_goals first|(exfalso;omega)|(exact A6 Tryz.results89)
 ·rw [show inI k 1 9=false from fZ k1]
  simp only [jH]
  by_cases k2:k<1
  all_goals
   refine C9 ?_
   repeat' (first|refine A0 ?_|fail)
   all_goals first|(exfalso;omega)|(exact A6 Tryz.results89)
theorem AvW (w:AH) (hl:w.cases.length≤1152921504606846976):Cd Tryz.prog 242 [aWt w] (bo (waitOK w)) []:=by
 have h1:(w.cases.map tCs).length=w.cases.length:=fN _
 have c1:=JL w.ticket 0 4294967295
 have c2:=JL w.seq 0 1048575
 have c3:=JL (w.cases.map tCs).length 1 3
 have c4:=GS ⟨3,0,0,false,w.cases⟩ hl
 rw [b3_] at c4
 obtain ⟨on,tk,sq,l⟩:=w
 unfold waitOK
 dsimp only at *
 cases on
 ·rw [fT (by decide)]
  have hst:l=[]↔l.length=0:=mX.symm
  have cs : ¬tk=0∨(tk=0 ∧ ¬sq=0)∨(tk=0∧sq=0 ∧ ¬l.length=0)∨(tk=0∧sq=0∧l.length=0):=by omega
  clear c1 c2 c3 c4
  rcases cs with e1|⟨e1,e2⟩|⟨e1,e2,e3⟩|⟨e1,e2,e3⟩
  all_goals
   refine ZEN Tryz.func242 Tryz.ntmps242 ?_
   repeat' (first|refine A0 ?_|fail)
   all_goals first|(exfalso;omega)|(refine A5 Tryz.results242 ?_)
   all_goals first|(simp [e1];done)|(simp [e1,e2];done)|(simp [e1,e2,hst,e3];done)|skip
 ·rw [fR rfl]
  have e3:inI (l.map tCs).length 1 3=decide (1≤l.length∧l.length≤3):=by unfold inI;exact kJ.2 (by omega)
  rw [e3] at c3
  generalize inI tk 0 4294967295=b1 at *
  generalize inI sq 0 1048575=b2 at *
  by_cases k:1≤l.length∧l.length≤3
  ·rw [fW k] at c3 ⊢
   rw [fW k.2,kM] at c4
   generalize l.all CT=b4 at *
   have cs:b1=false∨(b1=true∧b2=false)∨(b1=true∧b2=true):=by cases b1<;>cases b2<;>simp
   rcases cs with rfl|⟨rfl,rfl⟩|⟨rfl,rfl⟩
   all_goals
    refine ZEN Tryz.func242 Tryz.ntmps242 ?_
    repeat' (first|(refine ZAL ?_;first|refine uA ?_|(first|refine uK (c1) ?_|refine uK (c2) ?_|refine uK (c3) ?_)|refine uK (c4) ?_)|refine uC ?_|fail)
    all_goals first|(exfalso;omega)|(exact Bool.noConfusion hc)|(exact A6 Tryz.results242)
    all_goals first|(simp;done)|skip
  ·rw [fZ k] at c3 ⊢
   rw [kE,jH]
   have cs:b1=false∨(b1=true∧b2=false)∨(b1=true∧b2=true):=by cases b1<;>cases b2<;>simp
   rcases cs with rfl|⟨rfl,rfl⟩|⟨rfl,rfl⟩
   all_goals
    refine ZEN Tryz.func242 Tryz.ntmps242 ?_
    repeat' (first|refine F5 ?_|fail)
    all_goals first|(exfalso;omega)|(exact Bool.noConfusion hc)|(exact A6 Tryz.results242)
    all_goals first|(simp;done)|skip
theorem AkW (c:AB) (x:AY) (hl:x.buf.length≤1152921504606846976):Cd Tryz.prog 238 [.agg ((tCh x).map .t),.lp [i64 c.kind,i64 c.threads,i64 c.chans,i64 c.cap,i64 c.nodes,i64 c.retire,i64 c.patience,i64 c.tags,i64 c.seqs,i64 c.gens,.ln (c.start.map tI)]] (bo (!chanOK c.cap x)) []:=by
 have c1:=z5_ c x hl
 generalize chanOK c.cap x=b at c1
 show Cd Tryz.prog 238 [.agg [i64 x.gen,i64 x.cap,bo x.used,bo x.closed,.t (.lst (x.buf.map tI))],_] _ _
 refine ZEN Tryz.func238 Tryz.ntmps238 ?_
 repeat' (first|refine A7 ?_|fail)
 all_goals exact A2 Tryz.results238
theorem AkX (w:AH) (hl:w.cases.length≤1152921504606846976):Cd Tryz.prog 241 [.agg ((tWt w).map .t)] (bo (!waitOK w)) []:=by
 have c1:=AvW w hl
 generalize waitOK w=b at c1
 show Cd Tryz.prog 241 [.agg [bo w.on,i64 w.ticket,i64 w.seq,.t (.lst (w.cases.map tCs))]] _ _
 refine ZEN Tryz.func241 Tryz.ntmps241 ?_
 repeat' (first|refine A7 ?_|fail)
 all_goals exact A2 Tryz.results241
structure okH (h:AM):Prop where
 c:h.chans.length≤1152921504606846976
 b : ∀x∈h.chans,x.buf.length≤1152921504606846976
 w:h.waits.length≤1152921504606846976
 k : ∀x∈h.waits,x.cases.length≤1152921504606846976
 d:h.done.length≤1152921504606846976
theorem AkY (c:AB) (h:AM) (hs:c.start.length≤1152921504606846976) (hh:okH h):Cd Tryz.prog 206 [aCf c,aHl h] (bo (DZ c h)) []:=by
 have cF:=AkP 238 [] [.lp [i64 c.kind,i64 c.threads,i64 c.chans,i64 c.cap,i64 c.nodes,i64 c.retire,i64 c.patience,i64 c.tags,i64 c.seqs,i64 c.gens,.ln (c.start.map tI)]] (fun x => !chanOK c.cap x) h.chans
  (fun x hx=>⟨_,_,[],[.lp [i64 c.kind,i64 c.threads,i64 c.chans,i64 c.cap,i64 c.nodes,i64 c.retire,i64 c.patience,i64 c.tags,i64 c.seqs,i64 c.gens,.ln (c.start.map tI)]],rfl,Tryz.func238,by kernel_rfl,by kernel_rfl,fun _=>.nil,fun _=>.cons (.lpL (by repeat (first|exact .nil|refine .cons ?_ ?_|exact .t _|exact .ln _))) .nil,AkW c x (hh.b x hx)⟩) rfl
  (fun _ _=>.fnL .nil (.cons (.lpL (by repeat (first|exact .nil|refine .cons ?_ ?_|exact .t _|exact .ln _))) .nil)) hh.c
 have cW:=AkR 241 [] [] (fun x => !waitOK x) h.waits (fun x hx=>⟨_,_,[],[],rfl,Tryz.func241,by kernel_rfl,by kernel_rfl,fun _=>.nil,fun _=>.nil,AkX x (hh.k x hx)⟩) rfl (fun _ _=>.fnL .nil .nil) hh.w
 have c1:=ES c hs
 have c2:=JL h.ticket 0 4294967295
 have c3:=AeG h.done c.threads hh.d
 have h1:(h.chans.map tCh).length=h.chans.length:=fN _
 have h2:(h.waits.map tWt).length=h.waits.length:=fN _
 unfold DZ
 rw [mE,mE]
 generalize (h.chans.any fun x => !chanOK c.cap x)=b5 at *
 generalize (h.waits.any fun x => !waitOK x)=b6 at *
 generalize inI h.ticket 0 4294967295=b2 at *
 generalize resOK h.done c.threads=b3 at *
 cases hk:AZ c
 ·rw [hk] at c1
  simp only [jH]
  refine ZEN Tryz.func206 Tryz.ntmps206 ?_
  repeat' (first|refine A7 ?_|fail)
  all_goals exact A2 Tryz.results206
 ·rw [hk] at c1
  have cs : ¬c.kind=3∨(c.kind=3∧b2=false)∨(c.kind=3∧b2=true ∧ ¬(h.chans.length:Int)=c.chans)∨(c.kind=3∧b2=true∧(h.chans.length:Int)=c.chans ∧ ¬(h.waits.length:Int)=c.threads)∨(c.kind=3∧b2=true∧(h.chans.length:Int)=c.chans∧(h.waits.length:Int)=c.threads∧b3=false)∨(c.kind=3∧b2=true∧(h.chans.length:Int)=c.chans∧(h.waits.length:Int)=c.threads∧b3=true∧b5=true)∨(c.kind=3∧b2=true∧(h.chans.length:Int)=c.chans∧(h.waits.length:Int)=c.threads∧b3=true∧b5=false∧b6=true)∨(c.kind=3∧b2=true∧(h.chans.length:Int)=c.chans∧(h.waits.length:Int)=c.threads∧b3=true∧b5=false∧b6=false):=by
   by_cases e1:c.kind=3<;>by_cases e2:(h.chans.length:Int)=c.chans<;>by_cases e3:(h.waits.length:Int)=c.threads<;>cases b2<;>cases b3<;>cases b5<;>cases b6<;>simp [e1,e2,e3]
  rcases cs with e1|⟨e1,rfl⟩|⟨e1,rfl,e2⟩|⟨e1,rfl,e2,e3⟩|⟨e1,rfl,e2,e3,rfl⟩|⟨e1,rfl,e2,e3,rfl,rfl⟩|⟨e1,rfl,e2,e3,rfl,rfl,rfl⟩|⟨e1,rfl,e2,e3,rfl,rfl,rfl⟩
  all_goals
   refine ZEN Tryz.func206 Tryz.ntmps206 ?_
   repeat' (first|(refine ZAL ?_;first|refine uA ?_|refine uK (c1) ?_|refine uK (c2) ?_|refine uK (c3) ?_|refine uK (cF) ?_|refine uK (cW) ?_)|refine uC ?_|fail)
   all_goals first|(exfalso;omega)|(exact Bool.noConfusion hc)|(refine A5 Tryz.results206 ?_)
   all_goals first|(simp [e1];done)|(simp [e1,e2];done)|(simp [e1,e2,e3];done)|skip
theorem AkZ (c:AB) (x:CO) (hs:c.start.length≤1152921504606846976) (h1:x.list.length≤1152921504606846976) (h2:x.done.length≤1152921504606846976):Cd Tryz.prog 211 [aCf c,aCl x] (bo (EB c x)) []:=by
 have c1:=ES c hs
 have c2:=i8_ x.list c.cap h1
 have c3:=AeG x.done c.threads h2
 unfold EB
 generalize valsOK x.list c.cap=b2 at *
 generalize resOK x.done c.threads=b3 at *
 cases hk:AZ c
 ·rw [hk] at c1
  simp only [jH]
  refine ZEN Tryz.func211 Tryz.ntmps211 ?_
  repeat' (first|refine A7 ?_|fail)
  all_goals exact A2 Tryz.results211
 ·rw [hk] at c1
  have cs:c.kind=3∨(¬c.kind=3 ∧ ¬x.cap=c.cap)∨(¬c.kind=3∧x.cap=c.cap∧b2=false)∨(¬c.kind=3∧x.cap=c.cap∧b2=true∧b3=false)∨(¬c.kind=3∧x.cap=c.cap∧b2=true∧b3=true):=by
   by_cases e1:c.kind=3<;>by_cases e2:x.cap=c.cap<;>cases b2<;>cases b3<;>simp [e1,e2]
  rcases cs with e1|⟨e1,e2⟩|⟨e1,e2,rfl⟩|⟨e1,e2,rfl,rfl⟩|⟨e1,e2,rfl,rfl⟩
  all_goals
   refine ZEN Tryz.func211 Tryz.ntmps211 ?_
   repeat' (first|(refine ZAL ?_;first|refine uA ?_|refine uK (c1) ?_|refine uK (c2) ?_|refine uK (c3) ?_)|refine uC ?_|fail)
   all_goals first|(exfalso;omega)|(exact Bool.noConfusion hc)|(refine A5 Tryz.results211 ?_)
   all_goals first|(simp [e1];done)|(simp [e1,e2];done)|skip
section
attribute [local simp] DA
theorem x9_ {l:List Int} {n:Nat} (h:l.length≤n):CW l n=l++List.replicate (n-l.length) 0:=by
 refine iO fun i=>?_
 by_cases hi:i<n
 ·rw [j3_ l hi,fQ]
  by_cases hl:i<l.length
  ·rw [gH hl,ZgE hl];rfl
  ·rw [gD (by omega),mY,fR (by omega),gS (by omega)];rfl
 ·rw [gS bA,gS bA]
theorem ArS (l:List Int) (n k m:Nat) (o:List Int) (hm:m=o.length) (hv : ∀x∈l,0≤x∧x≤4294967295) (hl:l.length≤1000000) (hb:o.length+n≤1000000) :
  Cio Tryz.prog 207 [.sl 0 k m,.ln (l.map tI),i64 n] [.row k 46 1 (o.map tU)] (.sl 0 (k+n) (m+n)) [.row (k+n) 46 1 ((o++CW l n).map tU)]:=by
 subst hm
 have h1:(l.map tI).length=l.length:=fN _
 refine ZEN Tryz.func207 Tryz.ntmps207 ?_
 repeat' (first|refine A0 ?_|fail)
 refine AW.loopP (fun (i:Nat)=>i≤n) (fun (i:Nat)=>(pu (pu (pu (pu (fun _=>.any) 0 (.sl 0 (k+i) (o.length+i))) 1 (.ln (l.map tI))) 9 (i64 n)) 10 (i64 i))) (fun (i:Nat)=>[.row (k+i) 46 1 ((o++CW l i).map tU)]) (fun (i:Nat)=>n-i) (0) ?_ ?_ ?_
 ·exact fX _
 ·rw [show o++CW l 0=o by simp [CW]]
  exact Wk.cq 1
 ·intro i h2
  have hL:(o++CW l i).length=o.length+i:=by simp
  by_cases hi:i<n
  ·by_cases hj:i<l.length
   ·obtain ⟨a,ha⟩ : ∃a,l[i]? = some a:=⟨_,ZgE hj⟩
    have hva:=hv a (fO ha)
    have hs:o++CW l (i+1)=(o++CW l i)++[a]:=by rw [XA,fQ,ha,gC];rfl
    repeat' (first|refine E5 ?_|fail)
    all_goals try exact ZE5
    refine ⟨i+1,by omega,by omega,?_⟩
    rw [hs]
    exact Wk.cq 1
   ·have hs:o++CW l (i+1)=(o++CW l i)++[0]:=by rw [XA,fQ,gS (by omega),gC];rfl
    repeat' (first|refine E5 ?_|fail)
    all_goals try exact ZE5
    refine ⟨i+1,by omega,by omega,?_⟩
    rw [hs]
    exact Wk.cq 1
  ·obtain rfl:i=n:=by omega
   repeat' (first|refine A0 ?_|fail)
   all_goals exact A2 Tryz.results207
theorem AeD (l:List Int) (cap:Int) (n k m:Nat) (o:List Int) (hc:cap=n) (hm:m=o.length) (hv : ∀x∈l,0≤x∧x≤4294967295) (hl:l.length≤1000000) (hb:o.length+n≤1000000) :
  Cio Tryz.prog 207 [.sl 0 k m,.ln (l.map tI),i64 cap] [.row k 46 1 (o.map tU)] (.sl 0 (k+n) (m+n)) [.row (k+n) 46 1 ((o++CW l n).map tU)]:=by subst hc;exact ArS l n k m o hm hv hl hb
theorem SA (l:List Rst) (k m:Nat) (o:List Int) (hm:m=o.length) (hl:l.length≤1000000) (hb:o.length+l.length≤1000000) :
  Cio Tryz.prog 210 [.sl 0 k m,.ln (l.map tR)] [.row k 46 1 (o.map tU)] (.sl 0 (k+l.length) (m+l.length)) [.row (k+l.length) 46 1 ((o++l.map wordR).map tU)]:=by
 subst hm
 have h1:(l.map tR).length=l.length:=fN _
 refine ZEN Tryz.func210 Tryz.ntmps210 ?_
 repeat' (first|refine A0 ?_|fail)
 refine AW.loopP (fun (i:Nat)=>i≤l.length) (fun (i:Nat)=>(pu (pu (pu (pu (fun _=>.any) 0 (.sl 0 (k+i) (o.length+i))) 7 (.ln (l.map tR))) 8 (i64 (l.map tR).length)) 9 (i64 i))) (fun (i:Nat)=>[.row (k+i) 46 1 ((o++(l.take i).map wordR).map tU)]) (fun (i:Nat)=>l.length-i) (0) ?_ ?_ ?_
 ·exact fX _
 ·rw [show o++(l.take 0).map wordR=o by simp]
  exact Wk.cq 1
 ·intro i h2
  have hL:(o++(l.take i).map wordR).length=o.length+i:=by simp;omega
  by_cases hi:i<l.length
  ·obtain ⟨a,ha⟩ : ∃a,l[i]? = some a:=⟨_,ZgE hi⟩
   have hs:o++(l.take (i+1)).map wordR=(o++(l.take i).map wordR)++[wordR a]:=by rw [iB,ha];simp
   repeat' (first|(refine ZAL ?_;first|refine Cu ?_|refine uA ?_|refine uK (OT a) ?_)|refine uC ?_|fail)
   all_goals try exact ZE5
   refine ⟨i+1,by omega,by omega,?_⟩
   rw [hs]
   exact Wk.cq 1
  ·obtain rfl:i=l.length:=by omega
   repeat' (first|refine A0 ?_|fail)
   all_goals first|(exfalso;omega)|((refine A8 Tryz.results210 ?_ ?_ ?_<;>repeat' (first|exact ZE1|refine ZE2 ?_ ?_|refine ZE3 ?_|exact ZE4|fail)))
   all_goals (rw [jQ])
theorem l1_ (b:Bool):Cd Tryz.prog 209 [bo b] (u64 (JK b)) []:=by
 cases b
 all_goals
  refine ZEN Tryz.func209 Tryz.ntmps209 ?_
  repeat' (first|refine A0 ?_|fail)
  all_goals (exact A6 Tryz.results209)
theorem AsD (x:AY) (cap:Int) (hc:cap≤15) (h:chanOK cap x=true):Cd Tryz.prog 208 [aCh x] (u64 (FT x)) []:=by
 obtain ⟨h1,h2,⟨h3,h4⟩,_⟩:=BE.1 h
 have g1:(x.buf.map tI).length=x.buf.length:=fN _
 have b1:=IK x.used
 have b2:=IK x.closed
 have c1:=l1_ x.used
 have c2:=l1_ x.closed
 unfold FT
 refine ZEN Tryz.func208 Tryz.ntmps208 ?_
 repeat' (first|refine uA ?_|(refine ZRG ?_;first|(refine kR 1481 rfl ?_;first|refine R_shl rfl rfl 46 159 _ _ rfl rfl rfl (by decide) (shl_lit (m:=4096) rfl fB) ?_|refine R_bits rfl rfl .or 46 46 _ _ rfl rfl rfl rfl (or_sum' 12 (M:=4096) rfl (by omega) (by omega) (by omega) (by omega) (by omega) (by omega)) ?_|refine R_bits rfl rfl .or 46 46 _ _ rfl rfl rfl rfl (or_sum' 16 (M:=65536) rfl (by omega) (by omega) (by omega) (by omega) (by omega) (by omega)) ?_|refine R_bits rfl rfl .or 46 46 _ _ rfl rfl rfl rfl (or_sum' 17 (M:=131072) rfl (by omega) (by omega) (by omega) (by omega) (by omega) (by omega)) ?_|refine R_bits rfl rfl .or 46 46 _ _ rfl rfl rfl rfl (or_sum' 20 (M:=1048576) rfl (by omega) (by omega) (by omega) (by omega) (by omega) (by omega)) ?_|refine R_shl rfl rfl 46 159 _ _ rfl rfl rfl (by decide) (shl_lit (m:=65536) rfl fB) ?_|refine R_shl rfl rfl 46 159 _ _ rfl rfl rfl (by decide) (shl_lit (m:=131072) rfl fB) ?_|refine R_shl rfl rfl 46 159 _ _ rfl rfl rfl (by decide) (shl_lit (m:=1048576) rfl fB) ?_)|refine uR ?_|(first|refine uQ (c1) 0 ?_|refine uQ (c2) 0 ?_))|refine uC ?_|refine AW.drawU (id:=1) mixed 0 qR ?_|fail)
 all_goals first|(exfalso;omega)|(refine A5 Tryz.results208 ?_)
 all_goals (refine congrArg (fun z=>Tr.v (Value.int IntKind.u64 z)) ?_;omega)
def KX (q:AU) (ph:Int):List Int:=(q.kind+256*q.cases.length+65536*q.arg+4294967296*q.value)::(CW (q.cases.map wordK) 3++[ph])
theorem MH {q:AU}:BR q=true↔(1≤q.kind∧q.kind≤9)∧(0≤q.arg∧q.arg≤65535)∧(0≤q.value∧q.value≤4294967295)∧q.cases.length≤3 ∧ ∀k∈q.cases,CT k=true:=by
 unfold BR;simp only [gG,gM,iI,BX,nG]
def FB (hd:Int) (l:List BF) (i:Nat):List Int:=hd::(l.take i).map wordK
def FC (hd:Int) (l:List BF) (j:Nat):List Int:=hd::(l.map wordK++List.replicate j 0)
theorem u2_ (q:AU) (ph:Int) (hq:BR q=true) (hd:q.dflt=false) (hp:0≤ph∧ph≤4294967295):Cd Tryz.prog 182 [aRq q,i64 ph] (.t (.lst ((KX q ph).map tU))) []:=by
 obtain ⟨g1,g2,g3,g4,g5⟩:=MH.1 hq
 have c1:=GS q (by omega)
 rw [hq] at c1
 have c2:=FX ph 32 4294967296 (by decide) (by decide)
 rw [show fitI ph 4294967296=true from fW (by omega)] at c2
 have h1:(q.cases.map tCs).length=q.cases.length:=fN _
 unfold KX
 rw [x9_ (by simpa using g4),fN]
 obtain ⟨kd,ar,vl,df,l⟩:=q
 dsimp only at *
 subst hd
 generalize hH:kd+256*(l.length:Int)+65536*ar+4294967296*vl=hd0
 have hH2:kd+((l.map tCs).length:Int)*256+ar*65536+vl*4294967296=hd0:=by omega
 refine ZEN Tryz.func182 Tryz.ntmps182 ?_
 repeat' (first|(refine ZAL ?_;first|(refine kL 1481 rfl ?_;first|refine A_shl rfl rfl 46 159 _ _ rfl rfl rfl (by decide) (shl_lit (m:=256) rfl fB) ?_|refine A_bits rfl rfl .or 46 46 _ _ rfl rfl rfl rfl (or_sum' 8 (M:=256) rfl (by omega) (by omega) (by omega) (by omega) (by omega) (by omega)) ?_|refine A_bits rfl rfl .or 46 46 _ _ rfl rfl rfl rfl (or_sum' 16 (M:=65536) rfl (by omega) (by omega) (by omega) (by omega) (by omega) (by omega)) ?_|refine A_bits rfl rfl .or 46 46 _ _ rfl rfl rfl rfl (or_sum' 32 (M:=4294967296) rfl (by omega) (by omega) (by omega) (by omega) (by omega) (by omega)) ?_|refine A_shl rfl rfl 46 159 _ _ rfl rfl rfl (by decide) (shl_lit (m:=65536) rfl fB) ?_|refine A_shl rfl rfl 46 159 _ _ rfl rfl rfl (by decide) (shl_lit (m:=4294967296) rfl fB) ?_)|refine Cu ?_|refine uA ?_|refine uK (c1) ?_|refine uK (c2) ?_)|refine uC ?_|fail)
 all_goals try exact ZE5
 refine AW.loopP (fun (i:Nat)=>i≤l.length) (fun (i:Nat)=>(pu (pu (pu (pu (pu (fun _=>.any) 1 (i64 ph)) 6 (.sl 1 i (1+i))) 43 (.ln (l.map tCs))) 44 (i64 (l.map tCs).length)) 45 (i64 i))) (fun (i:Nat)=>[.box 32 [i64 kd,i64 ar,i64 vl,bo false,.ln (l.map tCs)],.row i 46 1 ((FB hd0 l i).map tU)]) (fun (i:Nat)=>l.length-i) (0) ?_ ?_ ?_
 ·exact fX _
 ·rw [show FB hd0 l 0=[hd0] from rfl, ←hH2]
  exact Wk.cq 2
 ·intro i h2
  have hL:(FB hd0 l i).length=1+i:=by simp [FB];omega
  by_cases hi:i<l.length
  ·obtain ⟨a,ha⟩ : ∃a,l[i]? = some a:=⟨_,ZgE hi⟩
   have hk:=FD.1 (g5 a (fO ha))
   have hw:wordK a=a.dir+a.handle*256+a.value*4294967296:=by unfold wordK;omega
   have hs:FB hd0 l (i+1)=FB hd0 l i++[a.dir+a.handle*256+a.value*4294967296]:=by unfold FB;rw [iB,ha, ←hw];simp
   repeat' (first|(refine ZAL ?_;first|(refine kL 1481 rfl ?_;first|refine A_shl rfl rfl 46 159 _ _ rfl rfl rfl (by decide) (shl_lit (m:=256) rfl fB) ?_|refine A_bits rfl rfl .or 46 46 _ _ rfl rfl rfl rfl (or_sum' 8 (M:=256) rfl (by omega) (by omega) (by omega) (by omega) (by omega) (by omega)) ?_|refine A_bits rfl rfl .or 46 46 _ _ rfl rfl rfl rfl (or_sum' 32 (M:=4294967296) rfl (by omega) (by omega) (by omega) (by omega) (by omega) (by omega)) ?_|refine A_shl rfl rfl 46 159 _ _ rfl rfl rfl (by decide) (shl_lit (m:=4294967296) rfl fB) ?_)|refine Cu ?_|refine uA ?_)|refine uC ?_|fail)
   all_goals try exact ZE5
   refine ⟨i+1,by omega,by omega,?_⟩
   rw [hs]
   exact Wk.cq 2
  ·obtain rfl:i=l.length:=by omega
   repeat' (first|refine A0 ?_|fail)
   all_goals try exact ZE5
   refine AW.loopP (fun (j:Nat)=>l.length+j≤3) (fun (j:Nat)=>(pu (pu (fun _=>.any) 1 (i64 ph)) 6 (.sl 1 (l.length+j) (1+l.length+j)))) (fun (j:Nat)=>[.box 32 [i64 kd,i64 ar,i64 vl,bo false,.ln (l.map tCs)],.row (l.length+j) 46 1 ((FC hd0 l j).map tU)]) (fun (j:Nat)=>3-j) (0) ?_ ?_ ?_
   ·omega
   ·rw [show FC hd0 l 0=FB hd0 l l.length by simp [FB,FC]]
    exact Wk.cq 2
   ·intro j h3
    have hL2:(FC hd0 l j).length=1+l.length+j:=by simp [FC];omega
    by_cases hj:l.length+j<3
    ·have hs:FC hd0 l (j+1)=FC hd0 l j++[0]:=by unfold FC;rw [lV];simp
     repeat' (first|refine E5 ?_|fail)
     all_goals try exact ZE5
     refine ⟨j+1,by omega,by omega,?_⟩
     rw [hs]
     exact Wk.cq 2
    ·obtain rfl:j=3-l.length:=by omega
     repeat' (first|refine Ft ?_|refine uS 12 (fun hb=>?_) (fun hb=>?_)|refine ZK2 (fun hc=>?_) (fun hc=>?_)|fail)
     all_goals first|(exfalso;omega)|(exact A6 Tryz.results182)
     all_goals (simp [FC];done)
end
end
end Go.Proofs.YtccefppppedgkaaGreat
