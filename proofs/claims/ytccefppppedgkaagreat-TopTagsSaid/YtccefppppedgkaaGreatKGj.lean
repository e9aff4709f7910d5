/- Joined: XTShape, XTPlain, XTBit2, XTPack, XTCode. -/
import Derived.Test.YtccefppppedgkaaGreatKGi
import Derived.Laws.BitsAllLaws
set_option linter.unusedVariables false
set_option linter.unusedSimpArgs false
set_option linter.unnecessarySimpa false
set_option maxRecDepth 100000
set_option maxHeartbeats 64000000
namespace Go.Proofs.YtccefppppedgkaaGreat
open Go.RowKit
section
attribute [local irreducible] AL AW RG Fin C Cd Cio AI AF AN
def inI (n a b:Int):Bool:=decide (a≤n∧n≤b)
def ownC (c:AB):Bool :=
 if c.kind=1∨c.kind=2 then inI c.cap 1 16&&decide (c.chans=0)&&decide (c.gens=0)&&decide (c.start=[])
 else if c.kind=3 then inI c.chans 1 8&&inI c.cap 0 8&&inI c.gens 1 4095&&decide ((c.start.length:Int)≤c.chans) && !(c.start.any fun n => !inI n 0 c.cap)
 else false
def AY (c:AB):Bool:=inI c.threads 1 64&&inI c.nodes 1 64&&inI c.retire 1 32&&inI c.patience 0 4&&inI c.tags 1 4294967295&&inI c.seqs 1 1048575&&ownC c
theorem IY (n a b:Int):Cd Tryz.prog 197 [i64 n,i64 a,i64 b] (bo (inI n a b)) []:=by
 unfold inI
 by_cases h1:a≤n<;>by_cases h2:n≤b
 all_goals
  refine ZEN Tryz.func197 Tryz.ntmps197 ?_
  repeat' (first|refine A0 ?_|fail)
  all_goals first|(exfalso;omega)|(refine A7 Tryz.results197 ?_)
  all_goals simp [h1,h2]
theorem AnI (n a b:Int):Cd Tryz.prog 98 [i64 n,i64 a,i64 b] (bo (inI n a b)) []:=by
 unfold inI
 by_cases h1:a≤n<;>by_cases h2:n≤b
 all_goals
  refine ZEN Tryz.func98 Tryz.ntmps98 ?_
  repeat' (first|refine A0 ?_|fail)
  all_goals first|(exfalso;omega)|(refine A7 Tryz.results98 ?_)
  all_goals simp [h1,h2]
theorem ArI (n:Int) (c:AB):Cd Tryz.prog 233 [i64 n,.lp [i64 c.kind,i64 c.threads,i64 c.chans,i64 c.cap,i64 c.nodes,i64 c.retire,i64 c.patience,i64 c.tags,i64 c.seqs,i64 c.gens,.ln (c.start.map tI)]] (bo (!inI n 0 c.cap)) []:=by
 have c1:=IY n 0 c.cap
 generalize inI n 0 c.cap=b at c1
 cases b
 all_goals
  refine ZEN Tryz.func233 Tryz.ntmps233 ?_
  repeat' (first|refine A6 ?_|fail)
  all_goals first|(exfalso;omega)|(exact A5 Tryz.results233)
theorem AyA (c:AB) (hs:c.start.length≤1152921504606846976):Cd Tryz.prog 198 [aCf c] (bo (ownC c)) []:=by
 have cF:=m4_ 233 [] [.lp [i64 c.kind,i64 c.threads,i64 c.chans,i64 c.cap,i64 c.nodes,i64 c.retire,i64 c.patience,i64 c.tags,i64 c.seqs,i64 c.gens,.ln (c.start.map tI)]] (fun n => !inI n 0 c.cap) c.start
  (fun n _=>⟨_,_,[],[.lp [i64 c.kind,i64 c.threads,i64 c.chans,i64 c.cap,i64 c.nodes,i64 c.retire,i64 c.patience,i64 c.tags,i64 c.seqs,i64 c.gens,.ln (c.start.map tI)]],rfl,Tryz.func233,by kernel_rfl,by kernel_rfl,fun _=>.nil,fun _=>.cons (.lpL (by repeat (first|exact .nil|refine .cons ?_ ?_|exact .t _|exact .ln _))) .nil,ArI n c⟩) rfl
  (fun _ _=>.fnL .nil (.cons (.lpL (by repeat (first|exact .nil|refine .cons ?_ ?_|exact .t _|exact .ln _))) .nil)) hs
 have h1:(c.start.map tI).length=c.start.length:=fH _
 have c1:=IY c.cap 1 16
 have c2:=IY c.chans 1 8
 have c3:=IY c.cap 0 8
 have c4:=IY c.gens 1 4095
 unfold ownC
 generalize inI c.cap 1 16=b1 at *
 generalize inI c.chans 1 8=b2 at *
 generalize inI c.cap 0 8=b3 at *
 generalize inI c.gens 1 4095=b4 at *
 generalize (c.start.any fun n => !inI n 0 c.cap)=b5 at *
 have hst:c.start=[]↔c.start.length=0:=mK.symm
 by_cases k:c.kind=1∨c.kind=2
 ·rw [fL k]
  have cs:b1=false∨(b1=true∧c.chans≠0)∨(b1=true∧c.chans=0∧c.gens≠0)∨(b1=true∧c.chans=0∧c.gens=0∧c.start.length≠0)∨(b1=true∧c.chans=0∧c.gens=0∧c.start.length=0):=by
   cases b1
   ·exact .inl rfl
   ·simp only [Bool.true_eq_false,true_and,false_or];omega
  clear c2 c3 c4 cF
  rcases k with k|k
  all_goals
   rcases cs with rfl|⟨rfl,e1⟩|⟨rfl,e1,e2⟩|⟨rfl,e1,e2,e3⟩|⟨rfl,e1,e2,e3⟩
   all_goals
    refine ZEN Tryz.func198 Tryz.ntmps198 ?_
    repeat' (first|refine A6 ?_|fail)
    all_goals first|(exfalso;omega)|((first|exact A5 Tryz.results198|refine A7 Tryz.results198 ?_))
    all_goals first|(simp;done)|(simp [e1];done)|(simp [e1,e2];done)|(simp [e1,e2,hst,e3];done)|skip
 ·rw [fM k]
  by_cases k3:c.kind=3
  ·rw [fL k3]
   have cs:b2=false∨(b2=true∧b3=false)∨(b2=true∧b3=true∧b4=false)∨(b2=true∧b3=true∧b4=true ∧ ¬(c.start.length:Int)≤c.chans)∨(b2=true∧b3=true∧b4=true∧(c.start.length:Int)≤c.chans∧b5=false)∨(b2=true∧b3=true∧b4=true∧(c.start.length:Int)≤c.chans∧b5=true):=by
    by_cases e:(c.start.length:Int)≤c.chans<;>cases b2<;>cases b3<;>cases b4<;>cases b5<;>simp [e]
   rcases cs with rfl|⟨rfl,rfl⟩|⟨rfl,rfl,rfl⟩|⟨rfl,rfl,rfl,e1⟩|⟨rfl,rfl,rfl,e1,rfl⟩|⟨rfl,rfl,rfl,e1,rfl⟩
   all_goals
    refine ZEN Tryz.func198 Tryz.ntmps198 ?_
    repeat' (first|(refine ZAL ?_;first|refine uA ?_|(first|refine uK (c2) ?_|refine uK (c3) ?_|refine uK (c4) ?_)|refine uK (cF) ?_)|refine uC ?_|fail)
    all_goals first|(exfalso;omega)|((first|exact A5 Tryz.results198|refine A7 Tryz.results198 ?_))
    all_goals first|(simp [e1];done)|(simp;done)|skip
  ·rw [fM k3]
   refine ZEN Tryz.func198 Tryz.ntmps198 ?_
   repeat' (first|refine A0 ?_|fail)
   all_goals exact A2 Tryz.results198
theorem EH (c:AB) (hs:c.start.length≤1152921504606846976):Cd Tryz.prog 137 [aCf c] (i64 (if AY c then 0 else 1)) []:=by
 have c1:=IY c.threads 1 64
 have c2:=IY c.nodes 1 64
 have c3:=IY c.retire 1 32
 have c4:=IY c.patience 0 4
 have c5:=IY c.tags 1 4294967295
 have c6:=IY c.seqs 1 1048575
 have c7:=AyA c hs
 unfold AY
 generalize inI c.threads 1 64=b1 at *
 generalize inI c.nodes 1 64=b2 at *
 generalize inI c.retire 1 32=b3 at *
 generalize inI c.patience 0 4=b4 at *
 generalize inI c.tags 1 4294967295=b5 at *
 generalize inI c.seqs 1 1048575=b6 at *
 generalize ownC c=b7 at *
 have cs:b1=false∨(b1=true∧b2=false)∨(b1=true∧b2=true∧b3=false)∨(b1=true∧b2=true∧b3=true∧b4=false)∨(b1=true∧b2=true∧b3=true∧b4=true∧b5=false)∨(b1=true∧b2=true∧b3=true∧b4=true∧b5=true∧b6=false)∨(b1=true∧b2=true∧b3=true∧b4=true∧b5=true∧b6=true∧b7=false)∨(b1=true∧b2=true∧b3=true∧b4=true∧b5=true∧b6=true∧b7=true):=by
  cases b1<;>cases b2<;>cases b3<;>cases b4<;>cases b5<;>cases b6<;>cases b7<;>simp
 rcases cs with rfl|⟨rfl,rfl⟩|⟨rfl,rfl,rfl⟩|⟨rfl,rfl,rfl,rfl⟩|⟨rfl,rfl,rfl,rfl,rfl⟩|⟨rfl,rfl,rfl,rfl,rfl,rfl⟩|⟨rfl,rfl,rfl,rfl,rfl,rfl,rfl⟩|⟨rfl,rfl,rfl,rfl,rfl,rfl,rfl⟩
 all_goals
  refine ZEN Tryz.func137 Tryz.ntmps137 ?_
  repeat' (first|(refine ZAL ?_;first|refine uA ?_|(first|refine uK (c1) ?_|refine uK (c2) ?_|refine uK (c3) ?_|refine uK (c4) ?_|refine uK (c5) ?_|refine uK (c6) ?_)|refine uK (c7) ?_)|refine uC ?_|fail)
  all_goals first|(exfalso;omega)|(exact Bool.noConfusion hc)|(exact A5 Tryz.results137)
  all_goals first|(simp;done)|skip
end
theorem or_sum (s:Nat) {a b M:Int} (hM:(2:Int)^s=M) (ha:0≤a) (hb:0≤b) (hs:b<M) (hm:a%M=0) (hA:a<18446744073709551616) (hB:b<18446744073709551616):bits .or .u64 a b=a+b:=by
 subst hM
 rw [u64_or a b ha hA hb hB,nat_join s]
 ·omega
 ·have:((a.toNat:Int))%((2^s:Nat):Int)=0:=by rw [Int.toNat_of_nonneg ha];simpa using hm
  exact_mod_cast this
 ·have:(b.toNat:Int)<((2^s:Nat):Int):=by rw [Int.toNat_of_nonneg hb];simpa using hs
  exact_mod_cast this
theorem or_sum' (s:Nat) {a b M:Int} (hM:(2:Int)^s=M) (ha:0≤a) (hb:0≤b) (hs:a<M) (hm:b%M=0) (hA:a<18446744073709551616) (hB:b<18446744073709551616):bits .or .u64 a b=a+b:=by
 have h:=or_sum s hM hb ha hs hm hB hA
 rw [u64_or b a hb hB ha hA,Nat.or_comm] at h
 rw [u64_or a b ha hA hb hB,h];omega
theorem and_lit (s:Nat) {x m M:Int} (hm:m+1=M) (hM:((2^s:Nat):Int)=M) (h0:0≤x) (h1:x<18446744073709551616) (h2:m<18446744073709551616):bits .and .u64 x m=x%M:=by
 subst hM
 obtain rfl:m=((2^s-1:Nat):Int):=by
  have:1≤2^s:=Nat.one_le_two_pow
  omega
 rw [u64_and x _ h0 h1 (by omega) h2,fW,Nat.and_two_pow_sub_one_eq_mod]
 rw [Int.natCast_emod,Int.toNat_of_nonneg h0]
section
attribute [local irreducible] AL AW RG Fin C Cd Cio AI AF AN
def fitI (n M:Int):Bool:=decide (0≤n∧n<M)
theorem FM (n b:Int) (M:Int) (hM:IntKind.i64.wrap (1*2^(min b.toNat 64))=M) (hb:0≤b):Cd Tryz.prog 131 [i64 n,i64 b] (bo (fitI n M)) []:=by
 unfold fitI
 by_cases h1:0≤n
 all_goals
  refine ZEN Tryz.func131 Tryz.ntmps131 ?_
  repeat' (first|(refine ZAL ?_;first|(refine kL 105 rfl ?_;first|refine A_shl rfl rfl 3 3 _ _ rfl rfl rfl (by omega) rfl ?_)|refine uA ?_)|refine uC ?_|fail)
  all_goals first|(exfalso;omega)|(refine A7 Tryz.results131 ?_)
  all_goals first|(simp [h1];done)|(rw [show IntKind.i64.bits=64 from rfl,hM];simp [h1];done)|skip
def goodR (r:Rst):Bool:=fitI r.value 4294967296&&fitI r.code 256&&fitI r.cas 16&&decide (0≤r.seq)&&decide (r.seq≤1048575)
theorem EC {r:Rst}:goodR r=true↔(0≤r.value∧r.value<4294967296)∧(0≤r.code∧r.code<256)∧(0≤r.cas∧r.cas<16)∧0≤r.seq∧r.seq≤1048575:=by unfold goodR fitI;simp;omega
def wordR (r:Rst):Int:=if goodR r then r.seq*17592186044416+r.cas*1099511627776+r.code*4294967296+r.value else 0
def readR (w:Int):Rst:=⟨w/17592186044416,w/1099511627776%16,w/4294967296%256,w%4294967296⟩
theorem p9_ (r:Rst):Cd Tryz.prog 224 [aR r] (bo (goodR r)) []:=by
 have c1:=FM r.value 32 4294967296 (by decide) (by decide)
 have c2:=FM r.code 8 256 (by decide) (by decide)
 have c3:=FM r.cas 4 16 (by decide) (by decide)
 unfold goodR
 generalize fitI r.value 4294967296=b1 at *
 generalize fitI r.code 256=b2 at *
 generalize fitI r.cas 16=b3 at *
 by_cases e1:0≤r.seq<;>by_cases e2:r.seq≤1048575
 all_goals
  cases b1<;>cases b2<;>cases b3
  all_goals
   refine ZEN Tryz.func224 Tryz.ntmps224 ?_
   repeat' (first|refine Ep ?_|fail)
   all_goals first|(exfalso;omega)|((first|exact A5 Tryz.results224|refine A7 Tryz.results224 ?_))
   all_goals first|(simp [e1,e2];done)|skip
theorem NX (r:Rst):Cd Tryz.prog 185 [aR r] (u64 (wordR r)) []:=by
 have c1:=p9_ r
 unfold wordR
 cases hg:goodR r
 ·rw [hg] at c1
  refine ZEN Tryz.func185 Tryz.ntmps185 ?_
  repeat' (first|refine A6 ?_|fail)
  all_goals exact A2 Tryz.results185
 ·rw [hg] at c1
  have h:=EC.1 hg
  rw [fL rfl]
  refine ZEN Tryz.func185 Tryz.ntmps185 ?_
  repeat' (first|(refine ZAL ?_;first|(refine kL 1481 rfl ?_;first|refine A_shl rfl rfl 46 159 _ _ rfl rfl rfl (by decide) (shl_lit (m:=17592186044416) rfl eY) ?_|refine A_shl rfl rfl 46 159 _ _ rfl rfl rfl (by decide) (shl_lit (m:=1099511627776) rfl eY) ?_|refine A_bits rfl rfl .or 46 46 _ _ rfl rfl rfl rfl (or_sum 32 (M:=4294967296) rfl (by omega) (by omega) (by omega) (by omega) (by omega) (by omega)) ?_|refine A_bits rfl rfl .or 46 46 _ _ rfl rfl rfl rfl (or_sum 40 (M:=1099511627776) rfl (by omega) (by omega) (by omega) (by omega) (by omega) (by omega)) ?_|refine A_bits rfl rfl .or 46 46 _ _ rfl rfl rfl rfl (or_sum 44 (M:=17592186044416) rfl (by omega) (by omega) (by omega) (by omega) (by omega) (by omega)) ?_|refine A_shl rfl rfl 46 159 _ _ rfl rfl rfl (by decide) (shl_lit (m:=4294967296) rfl eY) ?_)|refine uA ?_|refine uK (c1) ?_)|refine uC ?_|fail)
  all_goals exact A2 Tryz.results185
theorem GL (w:Int) (hw:0≤w∧w≤18446744073709551615):Cd Tryz.prog 183 [u64 w] (aR (readR w)) []:=by
 unfold readR
 refine ZEN Tryz.func183 Tryz.ntmps183 ?_
 repeat' (first|(refine ZAL ?_;first|(refine kL 1481 rfl ?_;first|refine A_shr rfl rfl 46 159 _ _ rfl rfl rfl (by decide) (fdiv_lit (m:=17592186044416) rfl (by decide)) ?_|refine A_shr rfl rfl 46 159 _ _ rfl rfl rfl (by decide) (fdiv_lit (m:=1099511627776) rfl (by decide)) ?_|refine A_bits rfl rfl .and 46 46 _ _ rfl rfl rfl rfl (and_lit 4 (M:=16) rfl rfl (by omega) (by omega) (by omega)) ?_|refine A_shr rfl rfl 46 159 _ _ rfl rfl rfl (by decide) (fdiv_lit (m:=4294967296) rfl (by decide)) ?_|refine A_bits rfl rfl .and 46 46 _ _ rfl rfl rfl rfl (and_lit 8 (M:=256) rfl rfl (by omega) (by omega) (by omega)) ?_|refine A_bits rfl rfl .and 46 46 _ _ rfl rfl rfl rfl (and_lit 32 (M:=4294967296) rfl rfl (by omega) (by omega) (by omega)) ?_)|refine uA ?_)|refine uC ?_|fail)
 all_goals exact Aa Tryz.results183
end
section
def CQ (l:List Int) (n:Nat):List Int:=(List.range n).map fun i=>l.getD i 0
def valsOK (l:List Int) (most:Int):Bool:=decide ((l.length:Int)≤most)&&l.all fun x=>inI x 0 4294967295
def resOK (l:List Rst) (n:Int):Bool:=decide ((l.length:Int)=n)&&l.all goodR
def chanOK (cap:Int) (x:AX):Bool:=inI x.gen 0 4095&&inI x.cap 0 cap&&valsOK x.buf x.cap&&(x.used||(!x.closed&&decide (x.cap=0)))
def CO (k:BD):Bool:=decide (k.dir=1∨k.dir=2)&&inI k.handle 0 65535&&inI k.value 0 4294967295
def waitOK (w:AH):Bool :=
 if w.on then inI w.ticket 0 4294967295&&inI w.seq 0 1048575&&decide (1≤w.cases.length∧w.cases.length≤3)&&w.cases.all CO
 else decide (w.ticket=0)&&decide (w.seq=0)&&decide (w.cases=[])
def DS (c:AB) (h:AM):Bool :=
 AY c&&decide (c.kind=3)&&inI h.ticket 0 4294967295&&decide ((h.chans.length:Int)=c.chans)&&decide ((h.waits.length:Int)=c.threads)&&resOK h.done c.threads&&h.chans.all (chanOK c.cap)&&h.waits.all waitOK
def DT (c:AB) (x:CL):Bool:=AY c&&decide (c.kind≠3)&&decide (x.cap=c.cap)&&valsOK x.list c.cap&&resOK x.done c.threads
def IX (b:Bool):Int:=if b then 1 else 0
def FI (x:AX):Int:=x.gen+4096*x.cap+65536*IX x.used+131072*IX x.closed+1048576*x.buf.length
def HH (w:AH):Int:=IX w.on+2*w.cases.length+16*w.seq+4294967296*w.ticket
def wordK (k:BD):Int:=k.dir+256*k.handle+4294967296*k.value
def SC (cap:Int) (x:AX):List Int:=FI x::CQ x.buf cap.toNat
def JL (w:AH):List Int:=HH w::CQ (w.cases.map wordK) 3
def putH (c:AB) (h:AM):List Int:=if DS c h then h.ticket::(h.chans.flatMap (SC c.cap)++(h.waits.flatMap JL++h.done.map wordR)) else []
def putX (c:AB) (x:CL):List Int:=if DT c x then (x.list.length:Int)::(CQ x.list c.cap.toNat++x.done.map wordR) else []
def CZ (l:List Int) (n:Nat) (m:Int):List Int:=((l.take n).take m.toNat).map fun w=>w%4294967296
def rdC (cap:Nat) (l:List Int):AX:=⟨l.headD 0%4096,l.headD 0/4096%16,decide (l.headD 0/65536%2=1),decide (l.headD 0/131072%2=1),CZ (l.drop 1) cap (l.headD 0/1048576%16)⟩
def rdK (w:Int):BD:=⟨w%256,w/256%65536,w/4294967296⟩
def rdW (l:List Int):AH:=⟨decide (l.headD 0%2=1),l.headD 0/4294967296,l.headD 0/16%1048576,(((l.drop 1).take 3).take (l.headD 0/2%8).toNat).map rdK⟩
def NZ (cap:Nat) (l:List Int) (n:Nat):List AX:=(List.range n).map fun i=>rdC cap (l.drop (i*(cap+1)))
def SH (l:List Int) (n:Nat):List AH:=(List.range n).map fun i=>rdW (l.drop (i*4))
def GX (l:List Int) (n:Nat):List Rst:=(l.take n).map readR
def KY (c:AB) (l:List Int):AM :=
 ⟨l.headD 0%4294967296,NZ c.cap.toNat (l.drop 1) c.chans.toNat,SH (l.drop (1+c.chans.toNat*(c.cap.toNat+1))) c.threads.toNat,GX (l.drop (1+c.chans.toNat*(c.cap.toNat+1)+c.threads.toNat*4)) c.threads.toNat⟩
def KH (c:AB) (l:List Int):CL:=⟨c.cap,CZ (l.drop 1) c.cap.toNat (l.headD 0),GX (l.drop (1+c.cap.toNat)) c.threads.toNat⟩
def stateC (c:AB):Int:=if AY c then (if c.kind=3 then 1+c.chans*(1+c.cap)+c.threads*4 else 1+c.cap) else 0
def sizeC (c:AB):Int:=if AY c then stateC c+c.threads else 0
def noH:AM:=⟨0,[],[],[]⟩
def noX:CL:=⟨0,[],[]⟩
def GV (c:AB) (l:List Int):Bool:=AY c&&decide (c.kind=3)&&decide ((l.length:Int)=sizeC c)&&decide (putH c (KY c l)=l)
def FK (c:AB) (l:List Int):Bool:=AY c&&decide (c.kind≠3)&&decide ((l.length:Int)=sizeC c)&&decide (putX c (KH c l)=l)
def readH (c:AB) (l:List Int):AM:=if GV c l then KY c l else noH
def readX (c:AB) (l:List Int):CL:=if FK c l then KH c l else noX
structure AoT (c:AB):Prop where
 t0:1≤c.threads
 t1:c.threads≤64
 k:c.kind=1∨c.kind=2∨c.kind=3
 h3:c.kind=3→1≤c.chans∧c.chans≤8∧0≤c.cap∧c.cap≤8
 h1:c.kind≠3→1≤c.cap∧c.cap≤16
theorem CB {n a b:Int}:inI n a b=true↔a≤n∧n≤b:=by unfold inI;simp
variable {c:AB}
theorem AJ (h:AY c=true):AoT c:=by
 unfold AY at h
 simp only [fX,CB] at h
 obtain ⟨⟨⟨⟨⟨⟨a,_⟩,_⟩,_⟩,_⟩,_⟩,o⟩:=h
 unfold ownC at o
 by_cases k:c.kind=1∨c.kind=2
 ·rw [fL k] at o
  simp only [fX,CB,gE] at o
  exact ⟨a.1,a.2,by omega,fun h=>by omega,fun _=>o.1.1.1⟩
 ·rw [fM k] at o
  by_cases k3:c.kind=3
  ·rw [fL k3] at o
   simp only [fX,CB,gE] at o
   exact ⟨a.1,a.2,by omega,fun _=>⟨o.1.1.1.1.1,o.1.1.1.1.2,o.1.1.1.2.1,o.1.1.1.2.2⟩,fun h=>absurd k3 h⟩
  ·rw [fM k3] at o;cases o
theorem MU (h:AY c=true) (k:c.kind=3):sizeC c=1+c.chans*(1+c.cap)+c.threads*4+c.threads:=by unfold sizeC stateC;rw [fL h,fL h,fL k]
theorem MW (h:AY c=true) (k:c.kind≠3):sizeC c=1+c.cap+c.threads:=by unfold sizeC stateC;rw [fL h,fL h,fM k]
theorem CW (l:List Int) (n:Nat):(CQ l n).length=n:=by simp [CQ]
theorem VM (l:List Int) (n:Nat):CQ l (n+1)=CQ l n++[l.getD n 0]:=by unfold CQ;rw [kD];simp
theorem f3_ (l:List Int) {n i:Nat} (h:i<n):(CQ l n)[i]? = some (l.getD i 0):=by unfold CQ;rw [gI,jO h];rfl
variable {n:Nat}
theorem VN (l:List Int) (h:l.length≤n):(CQ l n).take l.length=l:=by
 refine iI fun i=>?_
 rw [gF]
 by_cases hi:i<l.length
 ·rw [fL hi,f3_ l (by omega),fK,ZgE hi];rfl
 ·rw [fM hi,gL (by omega)]
theorem HF {α:Type} {f:α→List Int} {k:Nat} : ∀(l:List α),(∀x∈l,(f x).length=k)→(l.flatMap f).length=l.length*k
 | [],_=>by simp
 |a::l,h=>by
  rw [lY,fJ,h a (by simp),HF l fun x hx=>h x (by simp [hx]),fY,jX,Nat.add_comm]
theorem NL {α:Type} {f:α→List Int} {k:Nat} (r:List Int) : ∀(l:List α) (i:Nat),(∀x∈l,(f x).length=k)→i≤l.length→(l.flatMap f++r).drop (i*k)=(l.drop i).flatMap f++r
 |l,0,_,_=>by simp
 | [],i+1,_,h=>by simp at h
 | a::l,i+1,h,hi=>by
  have e:((f a)++(l.flatMap f++r)).drop k=l.flatMap f++r:=by
   have:=List.drop_left (l₁:=f a) (l₂:=l.flatMap f++r)
   rwa [h a (by simp)] at this
  rw [lY,fS,jX,Nat.add_comm (i*k) k, ←jV,e,NL r l i (fun x hx=>h x (by simp [hx])) (by simpa using hi),gN]
theorem MH (cap:Int) (x:AX):(SC cap x).length=cap.toNat+1:=by simp [SC,CW]
theorem NY (w:AH):(JL w).length=4:=by simp [JL,CW]
theorem SX {l:List Int} {m:Int}:valsOK l m=true↔(l.length:Int)≤m ∧ ∀x∈l,0≤x∧x≤4294967295:=by unfold valsOK;simp only [fX,gE,gY,CB]
theorem AkF {l:List Int} (h : ∀x∈l,0≤x∧x≤4294967295):(l.map fun w=>w%4294967296)=l:=by
 conv=>rhs;rw [←List.map_id l]
 exact jU fun x hx=>by have:=h x hx;exact Int.emod_eq_of_lt this.1 (by omega)
theorem UY {l r:List Int} (hn:l.length≤n) (h : ∀x∈l,0≤x∧x≤4294967295):CZ (CQ l n++r) n l.length=l:=by
 unfold CZ
 have e:(CQ l n++r).take n=CQ l n:=by
  have:=kX (l₁:=CQ l n) (l₂:=r)
  rwa [CW] at this
 rw [e,fW,VN l hn,AkF h]
theorem HV (b:Bool):0≤IX b∧IX b≤1:=by cases b<;>decide
theorem AbH (b:Bool):decide (IX b=1)=b:=by cases b<;>rfl
theorem BC {cap:Int} {x:AX}:chanOK cap x=true↔(0≤x.gen∧x.gen≤4095)∧(0≤x.cap∧x.cap≤cap)∧((x.buf.length:Int)≤x.cap ∧ ∀y∈x.buf,0≤y∧y≤4294967295)∧(x.used=true∨(x.closed=false∧x.cap=0)):=by
 unfold chanOK;simp only [fX,lH,CB,SX,Bool.not_eq_true',gE,mS]
theorem AlC {cap:Int} (hc:cap≤15) {x:AX} (h:chanOK cap x=true) (r:List Int):rdC cap.toNat (SC cap x++r)=x:=by
 obtain ⟨h1,h2,⟨h3,h4⟩,_⟩:=BC.1 h
 have b1:=HV x.used
 have b2:=HV x.closed
 have e1:FI x%4096=x.gen:=by unfold FI;omega
 have e2:FI x/4096%16=x.cap:=by unfold FI;omega
 have e3:FI x/65536%2=IX x.used:=by unfold FI;omega
 have e4:FI x/131072%2=IX x.closed:=by unfold FI;omega
 have e5:FI x/1048576=x.buf.length:=by unfold FI;omega
 have e6:(x.buf.length:Int)%16=x.buf.length:=by omega
 unfold rdC SC
 simp only [gS,lT,gN,iA]
 simp only [e1,e2,e3,e4,e5,e6,AbH]
 rw [UY (by omega) h4]
theorem EU {k:BD}:CO k=true↔(k.dir=1∨k.dir=2)∧(0≤k.handle∧k.handle≤65535)∧0≤k.value∧k.value≤4294967295:=by
 unfold CO;simp only [fX,gE,CB,mS]
theorem AfS {k:BD} (h:CO k=true):rdK (wordK k)=k:=by
 obtain ⟨h1,h2,h3⟩:=EU.1 h
 obtain ⟨d,n,v⟩:=k
 dsimp only at h1 h2 h3
 unfold rdK wordK
 dsimp only
 congr 1<;>omega
theorem AmN {k:BD} (h:CO k=true):0≤wordK k∧wordK k≤18446744073709551615:=by
 obtain ⟨h1,h2,h3⟩:=EU.1 h
 unfold wordK;omega
theorem SY {w:AH}:waitOK w=true↔(w.on=true∧(0≤w.ticket∧w.ticket≤4294967295)∧(0≤w.seq∧w.seq≤1048575)∧(1≤w.cases.length∧w.cases.length≤3) ∧ ∀k∈w.cases,CO k=true)∨(w.on=false∧w.ticket=0∧w.seq=0∧w.cases=[]):=by
 unfold waitOK
 cases w.on
 ·simp [mS]
 ·simp only [jL,fX,gE,gY,CB,mS,true_and,Bool.true_eq_false,lV,or_false]
structure AuI (w:AH):Prop where
 t:0≤w.ticket∧w.ticket≤4294967295
 s:0≤w.seq∧w.seq≤1048575
 n:w.cases.length≤3
 k : ∀k∈w.cases,CO k=true
theorem FB {w:AH} (h:waitOK w=true):AuI w:=by
 rcases SY.1 h with ⟨_,a,b,c,d⟩|⟨_,a,b,c⟩
 ·exact ⟨a,b,c.2,d⟩
 ·exact ⟨by omega,by omega,by rw [c];decide,by rw [c];intro k hk;cases hk⟩
theorem AlD {w:AH} (h:waitOK w=true) (r:List Int):rdW (JL w++r)=w:=by
 obtain ⟨h1,h2,h3,h4⟩:=FB h
 have b1:=HV w.on
 have e1:HH w%2=IX w.on:=by unfold HH;omega
 have e2:HH w/4294967296=w.ticket:=by unfold HH;omega
 have e3:HH w/16%1048576=w.seq:=by unfold HH;omega
 have e4:HH w/2%8=w.cases.length:=by unfold HH;omega
 unfold rdW JL
 simp only [gS,lT,gN,iA]
 have e5:(CQ (w.cases.map wordK) 3++r).take 3=CQ (w.cases.map wordK) 3:=by
  have:=kX (l₁:=CQ (w.cases.map wordK) 3) (l₂:=r)
  rwa [CW] at this
 simp only [e1,e2,e3,e4,AbH,e5,fW]
 have:=VN (w.cases.map wordK) (n:=3) (by simpa using h3)
 rw [fH] at this
 rw [this,mF]
 have:w.cases.map (rdK ∘ wordK)=w.cases:=by
  conv=>rhs;rw [←List.map_id w.cases]
  exact jU fun k hk=>AfS (h4 k hk)
 rw [this]
theorem j4_ {r:Rst} (h:goodR r=true):readR (wordR r)=r:=by
 have g:=EC.1 h
 obtain ⟨a,b,c,d⟩:=r
 unfold wordR
 rw [fL h]
 dsimp only at g
 unfold readR
 dsimp only
 congr 1<;>omega
theorem QH (r:Rst):0≤wordR r∧wordR r≤18446744073709551615:=by
 unfold wordR
 split
 ·rename_i h;have g:=EC.1 h;omega
 ·decide
theorem UZ {l:List Rst} {n:Int}:resOK l n=true↔(l.length:Int)=n ∧ ∀r∈l,goodR r=true:=by unfold resOK;simp only [fX,gE,gY]
theorem c3_ {l:List Rst} (h : ∀r∈l,goodR r=true):GX (l.map wordR) l.length=l:=by
 unfold GX
 rw [jE (by simp),mF]
 conv=>rhs;rw [←List.map_id l]
 exact jU fun r hr=>j4_ (h r hr)
theorem UW {α:Type} {l:List α} {f:Nat→α} (h : ∀i a,l[i]? = some a→f i=a):(List.range l.length).map f=l:=by
 refine iI fun i=>?_
 rw [gI]
 by_cases hi:i<l.length
 ·rw [jO hi,ZgE hi,kF,h i _ (ZgE hi)]
 ·rw [gL (by simpa using hi),gL (by omega)];rfl
theorem CU {α:Type} {l:List α} {i:Nat} {a:α} (h:l[i]? = some a):l.drop i=a::l.drop (i+1):=List.drop_eq_getElem?_toList_append.trans (by rw [h];rfl)
theorem DI {h:AM}:DS c h=true↔AY c=true∧c.kind=3∧(0≤h.ticket∧h.ticket≤4294967295)∧(h.chans.length:Int)=c.chans∧(h.waits.length:Int)=c.threads∧((h.done.length:Int)=c.threads ∧ ∀r∈h.done,goodR r=true)∧(∀x∈h.chans,chanOK c.cap x=true) ∧ ∀w∈h.waits,waitOK w=true:=by
 unfold DS;simp only [fX,gE,gY,CB,UZ,mS]
theorem MI {h:AM} (hf:DS c h=true):((putH c h).length:Int)=sizeC c:=by
 obtain ⟨h0,h1,h2,h3,h4,⟨h5,h6⟩,h7,h8⟩:=DI.1 hf
 have hs:=AJ h0
 have hb:=hs.h3 h1
 unfold putH
 rw [fL hf,MU h0 h1,fY,fJ,fJ,HF _ fun x _=>MH _ x,HF _ fun w _=>NY w,fH]
 obtain ⟨n,hn⟩ : ∃n:Nat,c.cap=n:=⟨c.cap.toNat,by omega⟩
 have:((h.chans.length*(c.cap.toNat+1):Nat):Int)=c.chans*(1+c.cap):=by rw [Int.natCast_mul,h3,hn,fW];congr 1;omega
 omega
theorem c1_ {h:AM} (hf:DS c h=true):KY c (putH c h)=h:=by
 obtain ⟨h0,h1,h2,h3,h4,⟨h5,h6⟩,h7,h8⟩:=DI.1 hf
 have hs:=AJ h0
 have hb:=hs.h3 h1
 have n1:c.chans.toNat=h.chans.length:=by omega
 have n2:c.threads.toNat=h.waits.length:=by omega
 have n3:h.waits.length=h.done.length:=by omega
 unfold KY putH
 rw [fL hf,n1,n2]
 simp only [lT,gN,iA,Nat.add_comm 1,Nat.add_right_comm _ 1]
 have d1 : ∀i,i≤h.chans.length → ∀r,(h.chans.flatMap (SC c.cap)++r).drop (i*(c.cap.toNat+1))=(h.chans.drop i).flatMap (SC c.cap)++r:=fun i hi r=>NL r h.chans i (fun x _=>MH _ x) hi
 have d2 : ∀i,i≤h.waits.length → ∀r,(h.waits.flatMap JL++r).drop (i*4)=(h.waits.drop i).flatMap JL++r:=fun i hi r=>NL r h.waits i (fun x _=>NY x) hi
 have e1:h.ticket%4294967296=h.ticket:=by omega
 have e2:NZ c.cap.toNat (h.chans.flatMap (SC c.cap)++(h.waits.flatMap JL++h.done.map wordR)) h.chans.length=h.chans:=by
  unfold NZ
  refine UW fun i a ha=>?_
  rw [d1 i (by have:=get_lt ha;omega),CU ha,lY,fS]
  exact AlC (by omega) (h7 a (fI ha)) _
 have e3:SH (h.waits.flatMap JL++h.done.map wordR) h.waits.length=h.waits:=by
  unfold SH
  refine UW fun i a ha=>?_
  rw [d2 i (by have:=get_lt ha;omega),CU ha,lY,fS]
  exact AlD (h8 a (fI ha)) _
 have e4:GX (h.done.map wordR) h.waits.length=h.done:=by rw [n3];exact c3_ h6
 rw [e1,e2,d1 _ (fN _),List.drop_length,mP,gM,e3, ←jV,d1 _ (fN _),List.drop_length,mP,gM,d2 _ (fN _),List.drop_length,mP,gM,e4]
theorem ZZ (c:AB) (h:AM):GV c (putH c h)=DS c h:=by
 cases hf:DS c h
 ·have:putH c h=[]:=by unfold putH;rw [hf];rfl
  unfold GV
  rw [this]
  cases h0:AY c
  ·rfl
  ·by_cases h1:c.kind=3
   ·have hs:=AJ h0
    have hb:=hs.h3 h1
    have:=hs.t0
    have hp:0≤c.chans*(1+c.cap):=jW (by omega) (by omega)
    have e : ¬((([]:List Int).length:Int)=sizeC c):=by rw [MU h0 h1];simp only [gB];omega
    rw [fP e];simp
   ·rw [fP h1];rfl
 ·obtain ⟨h0,h1,_⟩:=DI.1 hf
  unfold GV
  rw [h0,fR h1,fR (MI hf),fR (by rw [c1_ hf])];rfl
theorem DM {x:CL}:DT c x=true↔AY c=true∧c.kind≠3∧x.cap=c.cap∧((x.list.length:Int)≤c.cap ∧ ∀y∈x.list,0≤y∧y≤4294967295)∧(x.done.length:Int)=c.threads ∧ ∀r∈x.done,goodR r=true:=by
 unfold DT;simp only [fX,gE,SX,UZ,mS]
theorem MJ {x:CL} (hf:DT c x=true):((putX c x).length:Int)=sizeC c:=by
 obtain ⟨h0,h1,h2,⟨h3,h4⟩,h5,h6⟩:=DM.1 hf
 have hs:=AJ h0
 have hb:=hs.h1 h1
 unfold putX
 rw [fL hf,MW h0 h1,fY,fJ,CW,fH]
 omega
theorem c2_ {x:CL} (hf:DT c x=true):KH c (putX c x)=x:=by
 obtain ⟨h0,h1,h2,⟨h3,h4⟩,h5,h6⟩:=DM.1 hf
 have hs:=AJ h0
 have hb:=hs.h1 h1
 unfold KH putX
 rw [fL hf]
 simp only [lT,gN,iA,Nat.add_comm 1]
 have e5:(CQ x.list c.cap.toNat++x.done.map wordR).drop c.cap.toNat=x.done.map wordR:=by
  have:=List.drop_left (l₁:=CQ x.list c.cap.toNat) (l₂:=x.done.map wordR)
  rwa [CW] at this
 rw [UY (by omega) h4,e5]
 rw [show c.threads.toNat=x.done.length by omega,c3_ h6, ←h2]
theorem a_ (c:AB) (x:CL):FK c (putX c x)=DT c x:=by
 cases hf:DT c x
 ·have:putX c x=[]:=by unfold putX;rw [hf];rfl
  unfold FK
  rw [this]
  cases h0:AY c
  ·rfl
  ·by_cases h1:c.kind≠3
   ·have hs:=AJ h0
    have hb:=hs.h1 h1
    have:=hs.t0
    have e : ¬((([]:List Int).length:Int)=sizeC c):=by rw [MW h0 h1];simp only [gB];omega
    rw [fP e];simp
   ·rw [fP h1];rfl
 ·obtain ⟨h0,h1,_⟩:=DM.1 hf
  unfold FK
  rw [h0,fR h1,fR (MJ hf),fR (by rw [c2_ hf])];rfl
end
end Go.Proofs.YtccefppppedgkaaGreat
