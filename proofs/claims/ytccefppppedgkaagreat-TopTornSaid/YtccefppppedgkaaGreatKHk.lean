/- Joined: XTShape, XTPack, XTCode. -/
import Derived.Test.YtccefppppedgkaaGreatKHi
set_option linter.unusedVariables false
set_option linter.unusedSimpArgs false
set_option linter.unnecessarySimpa false
set_option maxRecDepth 100000
set_option maxHeartbeats 64000000
namespace Go.Proofs.YtccefppppedgkaaGreat
open Go.RowKit
section
attribute [local irreducible] AL AW RG Fin C Cd Cio AI AF AO
def inI (n a b:Int):Bool:=decide (a≤n∧n≤b)
def ownC (c:AB):Bool :=
 if c.kind=1∨c.kind=2 then inI c.cap 1 16&&decide (c.chans=0)&&decide (c.gens=0)&&decide (c.start=[])
 else if c.kind=3 then inI c.chans 1 8&&inI c.cap 0 8&&inI c.gens 1 4095&&decide ((c.start.length:Int)≤c.chans) && !(c.start.any fun n => !inI n 0 c.cap)
 else false
def AZ (c:AB):Bool:=inI c.threads 1 64&&inI c.nodes 1 64&&inI c.retire 1 32&&inI c.patience 0 4&&inI c.tags 1 4294967295&&inI c.seqs 1 1048575&&ownC c
theorem JL (n a b:Int):Cd Tryz.prog 197 [i64 n,i64 a,i64 b] (bo (inI n a b)) []:=by
 unfold inI
 by_cases h1:a≤n<;>by_cases h2:n≤b
 all_goals
  refine ZEN Tryz.func197 Tryz.ntmps197 ?_
  repeat' (first|refine A0 ?_|fail)
  all_goals first|(exfalso;omega)|(refine A5 Tryz.results197 ?_)
  all_goals simp [h1,h2]
theorem ApX (n a b:Int):Cd Tryz.prog 98 [i64 n,i64 a,i64 b] (bo (inI n a b)) []:=by
 unfold inI
 by_cases h1:a≤n<;>by_cases h2:n≤b
 all_goals
  refine ZEN Tryz.func98 Tryz.ntmps98 ?_
  repeat' (first|refine A0 ?_|fail)
  all_goals first|(exfalso;omega)|(refine A5 Tryz.results98 ?_)
  all_goals simp [h1,h2]
theorem AtV (n:Int) (c:AB):Cd Tryz.prog 233 [i64 n,.lp [i64 c.kind,i64 c.threads,i64 c.chans,i64 c.cap,i64 c.nodes,i64 c.retire,i64 c.patience,i64 c.tags,i64 c.seqs,i64 c.gens,.ln (c.start.map tI)]] (bo (!inI n 0 c.cap)) []:=by
 have c1:=JL n 0 c.cap
 generalize inI n 0 c.cap=b at c1
 cases b
 all_goals
  refine ZEN Tryz.func233 Tryz.ntmps233 ?_
  repeat' (first|refine A7 ?_|fail)
  all_goals first|(exfalso;omega)|(exact A6 Tryz.results233)
theorem BaO (c:AB) (hs:c.start.length≤1152921504606846976):Cd Tryz.prog 198 [aCf c] (bo (ownC c)) []:=by
 have cF:=q8_ 233 [] [.lp [i64 c.kind,i64 c.threads,i64 c.chans,i64 c.cap,i64 c.nodes,i64 c.retire,i64 c.patience,i64 c.tags,i64 c.seqs,i64 c.gens,.ln (c.start.map tI)]] (fun n => !inI n 0 c.cap) c.start
  (fun n _=>⟨_,_,[],[.lp [i64 c.kind,i64 c.threads,i64 c.chans,i64 c.cap,i64 c.nodes,i64 c.retire,i64 c.patience,i64 c.tags,i64 c.seqs,i64 c.gens,.ln (c.start.map tI)]],rfl,Tryz.func233,by kernel_rfl,by kernel_rfl,fun _=>.nil,fun _=>.cons (.lpL (by repeat (first|exact .nil|refine .cons ?_ ?_|exact .t _|exact .ln _))) .nil,AtV n c⟩) rfl
  (fun _ _=>.fnL .nil (.cons (.lpL (by repeat (first|exact .nil|refine .cons ?_ ?_|exact .t _|exact .ln _))) .nil)) hs
 have h1:(c.start.map tI).length=c.start.length:=fN _
 have c1:=JL c.cap 1 16
 have c2:=JL c.chans 1 8
 have c3:=JL c.cap 0 8
 have c4:=JL c.gens 1 4095
 unfold ownC
 generalize inI c.cap 1 16=b1 at *
 generalize inI c.chans 1 8=b2 at *
 generalize inI c.cap 0 8=b3 at *
 generalize inI c.gens 1 4095=b4 at *
 generalize (c.start.any fun n => !inI n 0 c.cap)=b5 at *
 have hst:c.start=[]↔c.start.length=0:=mX.symm
 by_cases k:c.kind=1∨c.kind=2
 ·rw [fR k]
  have cs:b1=false∨(b1=true∧c.chans≠0)∨(b1=true∧c.chans=0∧c.gens≠0)∨(b1=true∧c.chans=0∧c.gens=0∧c.start.length≠0)∨(b1=true∧c.chans=0∧c.gens=0∧c.start.length=0):=by
   cases b1
   ·exact .inl rfl
   ·simp only [Bool.true_eq_false,true_and,false_or];omega
  clear c2 c3 c4 cF
  rcases k with k|k
  all_goals
   rcases cs with rfl|⟨rfl,e1⟩|⟨rfl,e1,e2⟩|⟨rfl,e1,e2,e3⟩|⟨rfl,e1,e2,e3⟩
   all_goals
    refine ZEN Tryz.func198 Tryz.ntmps198 ?_
    repeat' (first|refine A7 ?_|fail)
    all_goals first|(exfalso;omega)|((first|exact A6 Tryz.results198|refine A5 Tryz.results198 ?_))
    all_goals first|(simp;done)|(simp [e1];done)|(simp [e1,e2];done)|(simp [e1,e2,hst,e3];done)|skip
 ·rw [fT k]
  by_cases k3:c.kind=3
  ·rw [fR k3]
   have cs:b2=false∨(b2=true∧b3=false)∨(b2=true∧b3=true∧b4=false)∨(b2=true∧b3=true∧b4=true ∧ ¬(c.start.length:Int)≤c.chans)∨(b2=true∧b3=true∧b4=true∧(c.start.length:Int)≤c.chans∧b5=false)∨(b2=true∧b3=true∧b4=true∧(c.start.length:Int)≤c.chans∧b5=true):=by
    by_cases e:(c.start.length:Int)≤c.chans<;>cases b2<;>cases b3<;>cases b4<;>cases b5<;>simp [e]
   rcases cs with rfl|⟨rfl,rfl⟩|⟨rfl,rfl,rfl⟩|⟨rfl,rfl,rfl,e1⟩|⟨rfl,rfl,rfl,e1,rfl⟩|⟨rfl,rfl,rfl,e1,rfl⟩
   all_goals
    refine ZEN Tryz.func198 Tryz.ntmps198 ?_
    repeat' (first|(refine ZAL ?_;first|refine uA ?_|(first|refine uK (c2) ?_|refine uK (c3) ?_|refine uK (c4) ?_)|refine uK (cF) ?_)|refine uC ?_|fail)
    all_goals first|(exfalso;omega)|((first|exact A6 Tryz.results198|refine A5 Tryz.results198 ?_))
    all_goals first|(simp [e1];done)|(simp;done)|skip
  ·rw [fT k3]
   refine ZEN Tryz.func198 Tryz.ntmps198 ?_
   repeat' (first|refine A0 ?_|fail)
   all_goals exact A2 Tryz.results198
theorem ES (c:AB) (hs:c.start.length≤1152921504606846976):Cd Tryz.prog 137 [aCf c] (i64 (if AZ c then 0 else 1)) []:=by
 have c1:=JL c.threads 1 64
 have c2:=JL c.nodes 1 64
 have c3:=JL c.retire 1 32
 have c4:=JL c.patience 0 4
 have c5:=JL c.tags 1 4294967295
 have c6:=JL c.seqs 1 1048575
 have c7:=BaO c hs
 unfold AZ
 generalize inI c.threads 1 64=b1 at *
 generalize inI c.nodes 1 64=b2 at *
 generalize inI c.retire 1 32=b3 at *
 generalize inI c.patience 0 4=b4 at *
 generalize inI c.tags 1 4294967295=b5 at *
 generalize inI c.seqs 1 1048575=b6 at *
 generalize ownC c=b7 at *
 have cs:b1=false∨(b1=true∧b2=false)∨(b1=true∧b2=true∧b3=false)∨(b1=true∧b2=true∧b3=true∧b4=false)∨(b1=true∧b2=true∧b3=true∧b4=true∧b5=false)∨(b1=true∧b2=true∧b3=true∧b4=true∧b5=true∧b6=false)∨(b1=true∧b2=true∧b3=true∧b4=true∧b5=true∧b6=true∧b7=false)∨(b1=true∧b2=true∧b3=true∧b4=true∧b5=true∧b6=true∧b7=true):=by
  cases b1<;>cases b2<;>cases b3<;>cases b4<;>cases b5<;>cases b6<;>cases b7<;>simp
 rcases cs with rfl|⟨rfl,rfl⟩|⟨rfl,rfl,rfl⟩|⟨rfl,rfl,rfl,rfl⟩|⟨rfl,rfl,rfl,rfl,rfl⟩|⟨rfl,rfl,rfl,rfl,rfl,rfl⟩|⟨rfl,rfl,rfl,rfl,rfl,rfl,rfl⟩|⟨rfl,rfl,rfl,rfl,rfl,rfl,rfl⟩
 all_goals
  refine ZEN Tryz.func137 Tryz.ntmps137 ?_
  repeat' (first|(refine ZAL ?_;first|refine uA ?_|(first|refine uK (c1) ?_|refine uK (c2) ?_|refine uK (c3) ?_|refine uK (c4) ?_|refine uK (c5) ?_|refine uK (c6) ?_)|refine uK (c7) ?_)|refine uC ?_|fail)
  all_goals first|(exfalso;omega)|(exact Bool.noConfusion hc)|(exact A6 Tryz.results137)
  all_goals first|(simp;done)|skip
def fitI (n M:Int):Bool:=decide (0≤n∧n<M)
theorem FX (n b:Int) (M:Int) (hM:IntKind.i64.wrap (1*2^(min b.toNat 64))=M) (hb:0≤b):Cd Tryz.prog 131 [i64 n,i64 b] (bo (fitI n M)) []:=by
 unfold fitI
 by_cases h1:0≤n
 all_goals
  refine ZEN Tryz.func131 Tryz.ntmps131 ?_
  repeat' (first|(refine ZAL ?_;first|(refine kL 105 rfl ?_;first|refine A_shl rfl rfl 3 3 _ _ rfl rfl rfl (by omega) rfl ?_)|refine uA ?_)|refine uC ?_|fail)
  all_goals first|(exfalso;omega)|(refine A5 Tryz.results131 ?_)
  all_goals first|(simp [h1];done)|(rw [show IntKind.i64.bits=64 from rfl,hM];simp [h1];done)|skip
def goodR (r:Rst):Bool:=fitI r.value 4294967296&&fitI r.code 256&&fitI r.cas 16&&decide (0≤r.seq)&&decide (r.seq≤1048575)
theorem EN {r:Rst}:goodR r=true↔(0≤r.value∧r.value<4294967296)∧(0≤r.code∧r.code<256)∧(0≤r.cas∧r.cas<16)∧0≤r.seq∧r.seq≤1048575:=by unfold goodR fitI;simp;omega
def wordR (r:Rst):Int:=if goodR r then r.seq*17592186044416+r.cas*1099511627776+r.code*4294967296+r.value else 0
def readR (w:Int):Rst:=⟨w/17592186044416,w/1099511627776%16,w/4294967296%256,w%4294967296⟩
theorem u4_ (r:Rst):Cd Tryz.prog 224 [aR r] (bo (goodR r)) []:=by
 have c1:=FX r.value 32 4294967296 (by decide) (by decide)
 have c2:=FX r.code 8 256 (by decide) (by decide)
 have c3:=FX r.cas 4 16 (by decide) (by decide)
 unfold goodR
 generalize fitI r.value 4294967296=b1 at *
 generalize fitI r.code 256=b2 at *
 generalize fitI r.cas 16=b3 at *
 by_cases e1:0≤r.seq<;>by_cases e2:r.seq≤1048575
 all_goals
  cases b1<;>cases b2<;>cases b3
  all_goals
   refine ZEN Tryz.func224 Tryz.ntmps224 ?_
   repeat' (first|refine F5 ?_|fail)
   all_goals first|(exfalso;omega)|((first|exact A6 Tryz.results224|refine A5 Tryz.results224 ?_))
   all_goals first|(simp [e1,e2];done)|skip
theorem OT (r:Rst):Cd Tryz.prog 185 [aR r] (u64 (wordR r)) []:=by
 have c1:=u4_ r
 unfold wordR
 cases hg:goodR r
 ·rw [hg] at c1
  refine ZEN Tryz.func185 Tryz.ntmps185 ?_
  repeat' (first|refine A7 ?_|fail)
  all_goals exact A2 Tryz.results185
 ·rw [hg] at c1
  have h:=EN.1 hg
  rw [fR rfl]
  refine ZEN Tryz.func185 Tryz.ntmps185 ?_
  repeat' (first|(refine ZAL ?_;first|(refine kL 1481 rfl ?_;first|refine A_shl rfl rfl 46 159 _ _ rfl rfl rfl (by decide) (shl_lit (m:=17592186044416) rfl fB) ?_|refine A_shl rfl rfl 46 159 _ _ rfl rfl rfl (by decide) (shl_lit (m:=1099511627776) rfl fB) ?_|refine A_bits rfl rfl .or 46 46 _ _ rfl rfl rfl rfl (or_sum 32 (M:=4294967296) rfl (by omega) (by omega) (by omega) (by omega) (by omega) (by omega)) ?_|refine A_bits rfl rfl .or 46 46 _ _ rfl rfl rfl rfl (or_sum 40 (M:=1099511627776) rfl (by omega) (by omega) (by omega) (by omega) (by omega) (by omega)) ?_|refine A_bits rfl rfl .or 46 46 _ _ rfl rfl rfl rfl (or_sum 44 (M:=17592186044416) rfl (by omega) (by omega) (by omega) (by omega) (by omega) (by omega)) ?_|refine A_shl rfl rfl 46 159 _ _ rfl rfl rfl (by decide) (shl_lit (m:=4294967296) rfl fB) ?_)|refine uA ?_|refine uK (c1) ?_)|refine uC ?_|fail)
  all_goals exact A2 Tryz.results185
theorem GT (w:Int) (hw:0≤w∧w≤18446744073709551615):Cd Tryz.prog 183 [u64 w] (aR (readR w)) []:=by
 unfold readR
 refine ZEN Tryz.func183 Tryz.ntmps183 ?_
 repeat' (first|(refine ZAL ?_;first|(refine kL 1481 rfl ?_;first|refine A_shr rfl rfl 46 159 _ _ rfl rfl rfl (by decide) (fdiv_lit (m:=17592186044416) rfl (by decide)) ?_|refine A_shr rfl rfl 46 159 _ _ rfl rfl rfl (by decide) (fdiv_lit (m:=1099511627776) rfl (by decide)) ?_|refine A_bits rfl rfl .and 46 46 _ _ rfl rfl rfl rfl (and_lit 4 (M:=16) rfl rfl (by omega) (by omega) (by omega)) ?_|refine A_shr rfl rfl 46 159 _ _ rfl rfl rfl (by decide) (fdiv_lit (m:=4294967296) rfl (by decide)) ?_|refine A_bits rfl rfl .and 46 46 _ _ rfl rfl rfl rfl (and_lit 8 (M:=256) rfl rfl (by omega) (by omega) (by omega)) ?_|refine A_bits rfl rfl .and 46 46 _ _ rfl rfl rfl rfl (and_lit 32 (M:=4294967296) rfl rfl (by omega) (by omega) (by omega)) ?_)|refine uA ?_)|refine uC ?_|fail)
 all_goals exact Aa Tryz.results183
end
section
def CW (l:List Int) (n:Nat):List Int:=(List.range n).map fun i=>l.getD i 0
def valsOK (l:List Int) (most:Int):Bool:=decide ((l.length:Int)≤most)&&l.all fun x=>inI x 0 4294967295
def resOK (l:List Rst) (n:Int):Bool:=decide ((l.length:Int)=n)&&l.all goodR
def chanOK (cap:Int) (x:AY):Bool:=inI x.gen 0 4095&&inI x.cap 0 cap&&valsOK x.buf x.cap&&(x.used||(!x.closed&&decide (x.cap=0)))
def CT (k:BF):Bool:=decide (k.dir=1∨k.dir=2)&&inI k.handle 0 65535&&inI k.value 0 4294967295
def waitOK (w:AH):Bool :=
 if w.on then inI w.ticket 0 4294967295&&inI w.seq 0 1048575&&decide (1≤w.cases.length∧w.cases.length≤3)&&w.cases.all CT
 else decide (w.ticket=0)&&decide (w.seq=0)&&decide (w.cases=[])
def DZ (c:AB) (h:AM):Bool :=
 AZ c&&decide (c.kind=3)&&inI h.ticket 0 4294967295&&decide ((h.chans.length:Int)=c.chans)&&decide ((h.waits.length:Int)=c.threads)&&resOK h.done c.threads&&h.chans.all (chanOK c.cap)&&h.waits.all waitOK
def EB (c:AB) (x:CO):Bool:=AZ c&&decide (c.kind≠3)&&decide (x.cap=c.cap)&&valsOK x.list c.cap&&resOK x.done c.threads
def JK (b:Bool):Int:=if b then 1 else 0
def FT (x:AY):Int:=x.gen+4096*x.cap+65536*JK x.used+131072*JK x.closed+1048576*x.buf.length
def HS (w:AH):Int:=JK w.on+2*w.cases.length+16*w.seq+4294967296*w.ticket
def wordK (k:BF):Int:=k.dir+256*k.handle+4294967296*k.value
def TO (cap:Int) (x:AY):List Int:=FT x::CW x.buf cap.toNat
def KA (w:AH):List Int:=HS w::CW (w.cases.map wordK) 3
def putH (c:AB) (h:AM):List Int:=if DZ c h then h.ticket::(h.chans.flatMap (TO c.cap)++(h.waits.flatMap KA++h.done.map wordR)) else []
def putX (c:AB) (x:CO):List Int:=if EB c x then (x.list.length:Int)::(CW x.list c.cap.toNat++x.done.map wordR) else []
def DF (l:List Int) (n:Nat) (m:Int):List Int:=((l.take n).take m.toNat).map fun w=>w%4294967296
def rdC (cap:Nat) (l:List Int):AY:=⟨l.headD 0%4096,l.headD 0/4096%16,decide (l.headD 0/65536%2=1),decide (l.headD 0/131072%2=1),DF (l.drop 1) cap (l.headD 0/1048576%16)⟩
def rdK (w:Int):BF:=⟨w%256,w/256%65536,w/4294967296⟩
def rdW (l:List Int):AH:=⟨decide (l.headD 0%2=1),l.headD 0/4294967296,l.headD 0/16%1048576,(((l.drop 1).take 3).take (l.headD 0/2%8).toNat).map rdK⟩
def OV (cap:Nat) (l:List Int) (n:Nat):List AY:=(List.range n).map fun i=>rdC cap (l.drop (i*(cap+1)))
def TR (l:List Int) (n:Nat):List AH:=(List.range n).map fun i=>rdW (l.drop (i*4))
def HH (l:List Int) (n:Nat):List Rst:=(l.take n).map readR
def LN (c:AB) (l:List Int):AM :=
 ⟨l.headD 0%4294967296,OV c.cap.toNat (l.drop 1) c.chans.toNat,TR (l.drop (1+c.chans.toNat*(c.cap.toNat+1))) c.threads.toNat,HH (l.drop (1+c.chans.toNat*(c.cap.toNat+1)+c.threads.toNat*4)) c.threads.toNat⟩
def KU (c:AB) (l:List Int):CO:=⟨c.cap,DF (l.drop 1) c.cap.toNat (l.headD 0),HH (l.drop (1+c.cap.toNat)) c.threads.toNat⟩
def stateC (c:AB):Int:=if AZ c then (if c.kind=3 then 1+c.chans*(1+c.cap)+c.threads*4 else 1+c.cap) else 0
def sizeC (c:AB):Int:=if AZ c then stateC c+c.threads else 0
def noH:AM:=⟨0,[],[],[]⟩
def noX:CO:=⟨0,[],[]⟩
def HF (c:AB) (l:List Int):Bool:=AZ c&&decide (c.kind=3)&&decide ((l.length:Int)=sizeC c)&&decide (putH c (LN c l)=l)
def FV (c:AB) (l:List Int):Bool:=AZ c&&decide (c.kind≠3)&&decide ((l.length:Int)=sizeC c)&&decide (putX c (KU c l)=l)
def readH (c:AB) (l:List Int):AM:=if HF c l then LN c l else noH
def readX (c:AB) (l:List Int):CO:=if FV c l then KU c l else noX
structure ArG (c:AB):Prop where
 t0:1≤c.threads
 t1:c.threads≤64
 k:c.kind=1∨c.kind=2∨c.kind=3
 h3:c.kind=3→1≤c.chans∧c.chans≤8∧0≤c.cap∧c.cap≤8
 h1:c.kind≠3→1≤c.cap∧c.cap≤16
theorem BX {n a b:Int}:inI n a b=true↔a≤n∧n≤b:=by unfold inI;simp
variable {c:AB}
theorem AJ (h:AZ c=true):ArG c:=by
 unfold AZ at h
 simp only [gG,BX] at h
 obtain ⟨⟨⟨⟨⟨⟨a,_⟩,_⟩,_⟩,_⟩,_⟩,o⟩:=h
 unfold ownC at o
 by_cases k:c.kind=1∨c.kind=2
 ·rw [fR k] at o
  simp only [gG,BX,gM] at o
  exact ⟨a.1,a.2,by omega,fun h=>by omega,fun _=>o.1.1.1⟩
 ·rw [fT k] at o
  by_cases k3:c.kind=3
  ·rw [fR k3] at o
   simp only [gG,BX,gM] at o
   exact ⟨a.1,a.2,by omega,fun _=>⟨o.1.1.1.1.1,o.1.1.1.1.2,o.1.1.1.2.1,o.1.1.1.2.2⟩,fun h=>absurd k3 h⟩
  ·rw [fT k3] at o;cases o
theorem NK (h:AZ c=true) (k:c.kind=3):sizeC c=1+c.chans*(1+c.cap)+c.threads*4+c.threads:=by unfold sizeC stateC;rw [fR h,fR h,fR k]
theorem NL (h:AZ c=true) (k:c.kind≠3):sizeC c=1+c.cap+c.threads:=by unfold sizeC stateC;rw [fR h,fR h,fT k]
theorem DA (l:List Int) (n:Nat):(CW l n).length=n:=by simp [CW]
theorem XA (l:List Int) (n:Nat):CW l (n+1)=CW l n++[l.getD n 0]:=by unfold CW;rw [kG];simp
theorem j3_ (l:List Int) {n i:Nat} (h:i<n):(CW l n)[i]? = some (l.getD i 0):=by unfold CW;rw [gP,jW h];rfl
variable {n:Nat}
theorem XC (l:List Int) (h:l.length≤n):(CW l n).take l.length=l:=by
 refine iO fun i=>?_
 rw [gN]
 by_cases hi:i<l.length
 ·rw [fR hi,j3_ l (by omega),fQ,ZgE hi];rfl
 ·rw [fT hi,gS (by omega)]
theorem HQ {α:Type} {f:α→List Int} {k:Nat} : ∀(l:List α),(∀x∈l,(f x).length=k)→(l.flatMap f).length=l.length*k
 | [],_=>by simp
 |a::l,h=>by
  rw [mM,fP,h a (by simp),HQ l fun x hx=>h x (by simp [hx]),gF,kF,Nat.add_comm]
theorem OJ {α:Type} {f:α→List Int} {k:Nat} (r:List Int) : ∀(l:List α) (i:Nat),(∀x∈l,(f x).length=k)→i≤l.length→(l.flatMap f++r).drop (i*k)=(l.drop i).flatMap f++r
 |l,0,_,_=>by simp
 | [],i+1,_,h=>by simp at h
 | a::l,i+1,h,hi=>by
  have e:((f a)++(l.flatMap f++r)).drop k=l.flatMap f++r:=by
   have:=mZ (l₁:=f a) (l₂:=l.flatMap f++r)
   rwa [h a (by simp)] at this
  rw [mM,gC,kF,Nat.add_comm (i*k) k, ←kD,e,OJ r l i (fun x hx=>h x (by simp [hx])) eX,gW]
theorem NA (cap:Int) (x:AY):(TO cap x).length=cap.toNat+1:=by simp [TO,DA]
theorem OU (w:AH):(KA w).length=4:=by simp [KA,DA]
theorem UM {l:List Int} {m:Int}:valsOK l m=true↔(l.length:Int)≤m ∧ ∀x∈l,0≤x∧x≤4294967295:=by unfold valsOK;simp only [gG,gM,iI,BX]
theorem AmI {l:List Int} (h : ∀x∈l,0≤x∧x≤4294967295):(l.map fun w=>w%4294967296)=l:=by
 conv=>rhs;rw [←List.map_id l]
 exact jR fun x hx=>by have:=h x hx;exact Int.emod_eq_of_lt this.1 (by omega)
theorem WL {l r:List Int} (hn:l.length≤n) (h : ∀x∈l,0≤x∧x≤4294967295):DF (CW l n++r) n l.length=l:=by
 unfold DF
 have e:(CW l n++r).take n=CW l n:=by
  have:=lP (l₁:=CW l n) (l₂:=r)
  rwa [DA] at this
 rw [e,gE,XC l hn,AmI h]
theorem IK (b:Bool):0≤JK b∧JK b≤1:=by cases b<;>decide
theorem AdE (b:Bool):decide (JK b=1)=b:=by cases b<;>rfl
theorem BE {cap:Int} {x:AY}:chanOK cap x=true↔(0≤x.gen∧x.gen≤4095)∧(0≤x.cap∧x.cap≤cap)∧((x.buf.length:Int)≤x.cap ∧ ∀y∈x.buf,0≤y∧y≤4294967295)∧(x.used=true∨(x.closed=false∧x.cap=0)):=by
 unfold chanOK;simp only [gG,lS,BX,UM,Bool.not_eq_true',gM,nG]
theorem AnF {cap:Int} (hc:cap≤15) {x:AY} (h:chanOK cap x=true) (r:List Int):rdC cap.toNat (TO cap x++r)=x:=by
 obtain ⟨h1,h2,⟨h3,h4⟩,_⟩:=BE.1 h
 have b1:=IK x.used
 have b2:=IK x.closed
 have e1:FT x%4096=x.gen:=by unfold FT;omega
 have e2:FT x/4096%16=x.cap:=by unfold FT;omega
 have e3:FT x/65536%2=JK x.used:=by unfold FT;omega
 have e4:FT x/131072%2=JK x.closed:=by unfold FT;omega
 have e5:FT x/1048576=x.buf.length:=by unfold FT;omega
 have e6:(x.buf.length:Int)%16=x.buf.length:=by omega
 unfold rdC TO
 simp only [gZ,mF,gW,iK]
 simp only [e1,e2,e3,e4,e5,e6,AdE]
 rw [WL (by omega) h4]
theorem FD {k:BF}:CT k=true↔(k.dir=1∨k.dir=2)∧(0≤k.handle∧k.handle≤65535)∧0≤k.value∧k.value≤4294967295:=by
 unfold CT;simp only [gG,gM,BX,nG]
theorem AhV {k:BF} (h:CT k=true):rdK (wordK k)=k:=by
 obtain ⟨h1,h2,h3⟩:=FD.1 h
 obtain ⟨d,n,v⟩:=k
 dsimp only at h1 h2 h3
 unfold rdK wordK
 dsimp only
 congr 1<;>omega
theorem AoX {k:BF} (h:CT k=true):0≤wordK k∧wordK k≤18446744073709551615:=by
 obtain ⟨h1,h2,h3⟩:=FD.1 h
 unfold wordK;omega
theorem UN {w:AH}:waitOK w=true↔(w.on=true∧(0≤w.ticket∧w.ticket≤4294967295)∧(0≤w.seq∧w.seq≤1048575)∧(1≤w.cases.length∧w.cases.length≤3) ∧ ∀k∈w.cases,CT k=true)∨(w.on=false∧w.ticket=0∧w.seq=0∧w.cases=[]):=by
 unfold waitOK
 cases w.on
 ·simp [nG]
 ·simp only [jU,gG,gM,iI,BX,nG,true_and,Bool.true_eq_false,mH,or_false]
structure AwY (w:AH):Prop where
 t:0≤w.ticket∧w.ticket≤4294967295
 s:0≤w.seq∧w.seq≤1048575
 n:w.cases.length≤3
 k : ∀k∈w.cases,CT k=true
theorem FL {w:AH} (h:waitOK w=true):AwY w:=by
 rcases UN.1 h with ⟨_,a,b,c,d⟩|⟨_,a,b,c⟩
 ·exact ⟨a,b,c.2,d⟩
 ·exact ⟨by omega,by omega,by rw [c];decide,by rw [c];intro k hk;cases hk⟩
theorem AnG {w:AH} (h:waitOK w=true) (r:List Int):rdW (KA w++r)=w:=by
 obtain ⟨h1,h2,h3,h4⟩:=FL h
 have b1:=IK w.on
 have e1:HS w%2=JK w.on:=by unfold HS;omega
 have e2:HS w/4294967296=w.ticket:=by unfold HS;omega
 have e3:HS w/16%1048576=w.seq:=by unfold HS;omega
 have e4:HS w/2%8=w.cases.length:=by unfold HS;omega
 unfold rdW KA
 simp only [gZ,mF,gW,iK]
 have e5:(CW (w.cases.map wordK) 3++r).take 3=CW (w.cases.map wordK) 3:=by
  have:=lP (l₁:=CW (w.cases.map wordK) 3) (l₂:=r)
  rwa [DA] at this
 simp only [e1,e2,e3,e4,AdE,e5,gE]
 have:=XC (w.cases.map wordK) (n:=3) (by simpa using h3)
 rw [fN] at this
 rw [this,lW]
 have:w.cases.map (rdK ∘ wordK)=w.cases:=by
  conv=>rhs;rw [←List.map_id w.cases]
  exact jR fun k hk=>AhV (h4 k hk)
 rw [this]
theorem n6_ {r:Rst} (h:goodR r=true):readR (wordR r)=r:=by
 have g:=EN.1 h
 obtain ⟨a,b,c,d⟩:=r
 unfold wordR
 rw [fR h]
 dsimp only at g
 unfold readR
 dsimp only
 congr 1<;>omega
theorem RL (r:Rst):0≤wordR r∧wordR r≤18446744073709551615:=by
 unfold wordR
 split
 ·rename_i h;have g:=EN.1 h;omega
 ·decide
theorem WM {l:List Rst} {n:Int}:resOK l n=true↔(l.length:Int)=n ∧ ∀r∈l,goodR r=true:=by unfold resOK;simp only [gG,gM,iI]
theorem g_ {l:List Rst} (h : ∀r∈l,goodR r=true):HH (l.map wordR) l.length=l:=by
 unfold HH
 rw [jE (by simp),lW]
 conv=>rhs;rw [←List.map_id l]
 exact jR fun r hr=>n6_ (h r hr)
theorem WJ {α:Type} {l:List α} {f:Nat→α} (h : ∀i a,l[i]? = some a→f i=a):(List.range l.length).map f=l:=by
 refine iO fun i=>?_
 rw [gP]
 by_cases hi:i<l.length
 ·rw [jW hi,ZgE hi,kS,h i _ (ZgE hi)]
 ·rw [gS eX,gS (by omega)];rfl
theorem CZ {α:Type} {l:List α} {i:Nat} {a:α} (h:l[i]? = some a):l.drop i=a::l.drop (i+1):=List.drop_eq_getElem?_toList_append.trans (by rw [h];rfl)
theorem DM {h:AM}:DZ c h=true↔AZ c=true∧c.kind=3∧(0≤h.ticket∧h.ticket≤4294967295)∧(h.chans.length:Int)=c.chans∧(h.waits.length:Int)=c.threads∧((h.done.length:Int)=c.threads ∧ ∀r∈h.done,goodR r=true)∧(∀x∈h.chans,chanOK c.cap x=true) ∧ ∀w∈h.waits,waitOK w=true:=by
 unfold DZ;simp only [gG,gM,iI,BX,WM,nG]
theorem NB {h:AM} (hf:DZ c h=true):((putH c h).length:Int)=sizeC c:=by
 obtain ⟨h0,h1,h2,h3,h4,⟨h5,h6⟩,h7,h8⟩:=DM.1 hf
 have hs:=AJ h0
 have hb:=hs.h3 h1
 unfold putH
 rw [fR hf,NK h0 h1,gF,fP,fP,HQ _ fun x _=>NA _ x,HQ _ fun w _=>OU w,fN]
 obtain ⟨n,hn⟩ : ∃n:Nat,c.cap=n:=⟨c.cap.toNat,by omega⟩
 have:((h.chans.length*(c.cap.toNat+1):Nat):Int)=c.chans*(1+c.cap):=by rw [Int.natCast_mul,h3,hn,gE];congr 1;omega
 omega
theorem f8_ {h:AM} (hf:DZ c h=true):LN c (putH c h)=h:=by
 obtain ⟨h0,h1,h2,h3,h4,⟨h5,h6⟩,h7,h8⟩:=DM.1 hf
 have hs:=AJ h0
 have hb:=hs.h3 h1
 have n1:c.chans.toNat=h.chans.length:=by omega
 have n2:c.threads.toNat=h.waits.length:=by omega
 have n3:h.waits.length=h.done.length:=by omega
 unfold LN putH
 rw [fR hf,n1,n2]
 simp only [mF,gW,iK,Nat.add_comm 1,Nat.add_right_comm _ 1]
 have d1 : ∀i,i≤h.chans.length → ∀r,(h.chans.flatMap (TO c.cap)++r).drop (i*(c.cap.toNat+1))=(h.chans.drop i).flatMap (TO c.cap)++r:=fun i hi r=>OJ r h.chans i (fun x _=>NA _ x) hi
 have d2 : ∀i,i≤h.waits.length → ∀r,(h.waits.flatMap KA++r).drop (i*4)=(h.waits.drop i).flatMap KA++r:=fun i hi r=>OJ r h.waits i (fun x _=>OU x) hi
 have e1:h.ticket%4294967296=h.ticket:=by omega
 have e2:OV c.cap.toNat (h.chans.flatMap (TO c.cap)++(h.waits.flatMap KA++h.done.map wordR)) h.chans.length=h.chans:=by
  unfold OV
  refine WJ fun i a ha=>?_
  rw [d1 i (by have:=get_lt ha;omega),CZ ha,mM,gC]
  exact AnF (by omega) (h7 a (fO ha)) _
 have e3:TR (h.waits.flatMap KA++h.done.map wordR) h.waits.length=h.waits:=by
  unfold TR
  refine WJ fun i a ha=>?_
  rw [d2 i (by have:=get_lt ha;omega),CZ ha,mM,gC]
  exact AnG (h8 a (fO ha)) _
 have e4:HH (h.done.map wordR) h.waits.length=h.done:=by rw [n3];exact g_ h6
 rw [e1,e2,d1 _ (fV _),mQ,nE,gU,e3, ←kD,d1 _ (fV _),mQ,nE,gU,d2 _ (fV _),mQ,nE,gU,e4]
theorem d2_ (c:AB) (h:AM):HF c (putH c h)=DZ c h:=by
 cases hf:DZ c h
 ·have:putH c h=[]:=by unfold putH;rw [hf];rfl
  unfold HF
  rw [this]
  cases h0:AZ c
  ·rfl
  ·by_cases h1:c.kind=3
   ·have hs:=AJ h0
    have hb:=hs.h3 h1
    have:=hs.t0
    have hp:0≤c.chans*(1+c.cap):=jZ (by omega) (by omega)
    have e : ¬((([]:List Int).length:Int)=sizeC c):=by rw [NK h0 h1];simp only [gI];omega
    rw [fZ e];simp
   ·rw [fZ h1];rfl
 ·obtain ⟨h0,h1,_⟩:=DM.1 hf
  unfold HF
  rw [h0,fW h1,fW (NB hf),fW (by rw [f8_ hf])];rfl
theorem DS {x:CO}:EB c x=true↔AZ c=true∧c.kind≠3∧x.cap=c.cap∧((x.list.length:Int)≤c.cap ∧ ∀y∈x.list,0≤y∧y≤4294967295)∧(x.done.length:Int)=c.threads ∧ ∀r∈x.done,goodR r=true:=by
 unfold EB;simp only [gG,gM,UM,WM,nG]
theorem NC {x:CO} (hf:EB c x=true):((putX c x).length:Int)=sizeC c:=by
 obtain ⟨h0,h1,h2,⟨h3,h4⟩,h5,h6⟩:=DS.1 hf
 have hs:=AJ h0
 have hb:=hs.h1 h1
 unfold putX
 rw [fR hf,NL h0 h1,gF,fP,DA,fN]
 omega
theorem f9_ {x:CO} (hf:EB c x=true):KU c (putX c x)=x:=by
 obtain ⟨h0,h1,h2,⟨h3,h4⟩,h5,h6⟩:=DS.1 hf
 have hs:=AJ h0
 have hb:=hs.h1 h1
 unfold KU putX
 rw [fR hf]
 simp only [mF,gW,iK,Nat.add_comm 1]
 have e5:(CW x.list c.cap.toNat++x.done.map wordR).drop c.cap.toNat=x.done.map wordR:=by
  have:=mZ (l₁:=CW x.list c.cap.toNat) (l₂:=x.done.map wordR)
  rwa [DA] at this
 rw [WL (by omega) h4,e5]
 rw [show c.threads.toNat=x.done.length by omega,g_ h6, ←h2]
theorem d3_ (c:AB) (x:CO):FV c (putX c x)=EB c x:=by
 cases hf:EB c x
 ·have:putX c x=[]:=by unfold putX;rw [hf];rfl
  unfold FV
  rw [this]
  cases h0:AZ c
  ·rfl
  ·by_cases h1:c.kind≠3
   ·have hs:=AJ h0
    have hb:=hs.h1 h1
    have:=hs.t0
    have e : ¬((([]:List Int).length:Int)=sizeC c):=by rw [NL h0 h1];simp only [gI];omega
    rw [fZ e];simp
   ·rw [fZ h1];rfl
 ·obtain ⟨h0,h1,_⟩:=DS.1 hf
  unfold FV
  rw [h0,fW h1,fW (NC hf),fW (by rw [f9_ hf])];rfl
end
end Go.Proofs.YtccefppppedgkaaGreat
