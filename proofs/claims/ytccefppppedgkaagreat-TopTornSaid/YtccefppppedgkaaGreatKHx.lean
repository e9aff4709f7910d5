/- Joined: XTObjW, XTLayout, XTStart, XTSetup, XTopM. -/
import Derived.Test.YtccefppppedgkaaGreatKHs
import Derived.Test.YtccefppppedgkaaGreatKHu
set_option linter.unusedVariables false
set_option linter.unusedSimpArgs false
set_option linter.unnecessarySimpa false
set_option maxRecDepth 100000
set_option maxHeartbeats 64000000
namespace Go.Proofs.YtccefppppedgkaaGreat
open Go.RowKit
def appX (lifo:Bool) (x:CO) (t n:Int) (q:AU):CO:=⟨x.cap,(GL lifo x.cap x.list x.done t n q.kind q.value).1,(GL lifo x.cap x.list x.done t n q.kind q.value).2⟩
theorem AiH {d:List Rst} {t:Int} {r x:Rst} (h:x∈JN d t r):x∈d∨x=r:=by
 unfold JN at h;split at h
 ·exact iX h
 ·exact .inl h
theorem AkB (lifo:Bool) (cap:Int) (l:List Int) (d:List Rst) (t s k v:Int) (hl:(l.length:Int)≤cap) (hc:0≤cap∧cap≤16) (hL : ∀y∈l,0≤y∧y≤4294967295) (hv:0≤v∧v≤4294967295) (hs:0≤s∧s≤1048575) :
  (((GL lifo cap l d t s k v).1.length:Int)≤cap ∧ ∀y∈(GL lifo cap l d t s k v).1,0≤y∧y≤4294967295) ∧ ∃r:Rst,(GL lifo cap l d t s k v).2=JN d t r∧goodR r=true∧r.seq=s:=by
 have hg : ∀i,0≤l.getD i 0∧l.getD i 0<4294967296:=fun i=>by
  rw [fQ]
  cases hx:l[i]? with
  |none=>decide
  |some a=>have:=hL a (fO hx);simp only [jK];omega
 have good : ∀e z:Int,(0≤e∧e<256)→(0≤z∧z<4294967296)→goodR ⟨s,0,e,z⟩=true:=fun e z he hz=>EN.2 ⟨hz,he,⟨by dsimp only;decide,by dsimp only;decide⟩,hs⟩
 unfold GL
 split
 ·split
  ·exact ⟨⟨hl,hL⟩,_,rfl,good _ _ (by decide) (by decide),rfl⟩
  ·refine ⟨⟨by rw [fP];simp only [gF,gI];omega,fun y hy=>?_⟩,_,rfl,good _ _ (by decide) (by decide),rfl⟩
   rcases gQ.1 hy with hy|hy
   ·exact hL y hy
   ·rw [iN] at hy;subst hy;exact hv
 ·split
  ·split
   ·exact ⟨⟨hl,hL⟩,_,rfl,good _ _ (by decide) (by decide),rfl⟩
   ·split
    ·refine ⟨⟨by dsimp only;rw [fY];omega,fun y hy=>hL y (iQ hy)⟩,_,rfl,good _ _ (by decide) (hg _),rfl⟩
    ·refine ⟨⟨by dsimp only;rw [gJ];omega,fun y hy=>hL y (iF hy)⟩,_,rfl,good _ _ (by decide) (hg _),rfl⟩
  ·split
   ·exact ⟨⟨hl,hL⟩,_,rfl,good _ _ (by decide) (by omega),rfl⟩
   ·split
    ·exact ⟨⟨hl,hL⟩,_,rfl,good _ _ (by decide) (by omega),rfl⟩
    ·exact ⟨⟨hl,hL⟩,_,rfl,good _ _ (by decide) (by decide),rfl⟩
theorem PV {c:AB} {x:CO} {lifo:Bool} {t n:Int} {q:AU} (f:EB c x=true) (hq:BR q=true) (hn:0≤n∧n≤1048575):EB c (appX lifo x t n q)=true:=by
 obtain ⟨h0,h1,h2,⟨h3,h4⟩,h5,h6⟩:=DS.1 f
 have hs:=AJ h0
 have hb:=hs.h1 h1
 obtain ⟨-, -,q3, -, -⟩:=MH.1 hq
 obtain ⟨g1,r,g2,g3,g4⟩:=AkB lifo x.cap x.list x.done t n q.kind q.value (by omega) (by omega) h4 q3 hn
 rw [←h2] at h3
 unfold appX
 refine DS.2 ⟨h0,h1,h2,by rw [←h2];exact g1,by dsimp only;rw [g2,EX];exact h5,fun y hy=>?_⟩
 dsimp only at hy
 rw [g2] at hy
 rcases AiH hy with hy|rfl
 ·exact h6 y hy
 ·exact g3
def newX (c:AB):CO:=⟨c.cap,[],List.replicate (thN c) ⟨0,0,0,0⟩⟩
theorem b5_ {c:AB} (k:AZ c=true) (k3:c.kind≠3):EB c (newX c)=true:=by
 have hs:=AJ k
 have hb:=hs.h1 k3
 have ht:((thN c:Nat):Int)=c.threads:=by have:=hs.t0;have:=hs.t1;unfold thN;omega
 refine DS.2 ⟨k,k3,rfl,⟨by dsimp only [newX,List.length_nil];omega,fun y hy=>by cases hy⟩,by dsimp only [newX];rw [iV];exact ht,fun r hr=>?_⟩
 rw [jD hr];decide
def startO (c:AB):List Int:=if AZ c then (if c.kind=3 then putH c (startH c) else putX c (newX c)) else []
def AtF (c:AB) (t n:Int) (q:AU):Bool:=decide (0≤t∧t<c.threads)&&decide (0≤n∧n≤1048575)&&BR q
def FN (c:AB) (l:List Int) (t n:Int) (q:AU):List Int :=
 if AtF c t n q then
  if c.kind=3 then (if HF c l then putH c (applyH c (readH c l) t n q) else l)
  else if FV c l then putX c (appX (decide (c.kind=2)) (readX c l) t n q) else l
 else l
structure Isw (c:AB) (l:List Int):Prop where
 no:AZ c=false→l=[]
 h:AZ c=true→c.kind=3→HF c l=true
 x:AZ c=true→c.kind≠3→FV c l=true
theorem WQ (c:AB):Isw c (startO c):=by
 unfold startO
 refine ⟨fun k=>by rw [fT (by simp [k])],fun k k3=>?_,fun k k3=>?_⟩
 ·rw [fR k,fR k3,d2_,b4_ k k3]
 ·rw [fR k,fT k3,d3_,b5_ k k3]
theorem Isw.len {c:AB} {l:List Int} (s:Isw c l):(l.length:Int)=sizeC c:=by
 cases k:AZ c
 ·rw [s.no k];unfold sizeC;rw [fT (by simp [k])];rfl
 ·by_cases k3:c.kind=3
  ·obtain ⟨f,e⟩:=OL (s.h k k3)
   have:=NB f
   rwa [e] at this
  ·obtain ⟨f,e⟩:=OM (s.x k k3)
   have:=NC f
   rwa [e] at this
theorem AiQ (c:AB):okU (startO c):=by
 unfold startO
 split
 ·split
  ·exact AhS _ _
  ·exact AhU _ _
 ·intro w hw;cases hw
theorem ZW {c:AB} {l:List Int} (h:okU l) (t n:Int) (q:AU):okU (FN c l t n q):=by
 unfold FN
 split
 ·split
  ·split
   ·exact AhS _ _
   ·exact h
  ·split
   ·exact AhU _ _
   ·exact h
 ·exact h
theorem QP {c:AB} {l:List Int} (h:okU l) (t:Int):0≤doneL c l t∧doneL c l t≤18446744073709551615:=by
 unfold doneL
 split
 ·rw [fQ]
  cases hx:l[(stateC c+t).toNat]? with
  |none=>decide
  |some a=>exact h a (fO hx)
 ·decide
section
attribute [local irreducible] AL AW RG Fin C Cd Cio AI AF AO
abbrev Wi (x:Int):Int:=IntKind.i64.wrap x
def ApQ (c:AB) (t:Int):Int:=Wi (Wi (3+c.threads)+Wi (t*5))
def AxP (c:AB) (t:Int):Int:=Wi (Wi (3+Wi (c.threads*6))+t)
def epL (c:AB) (t:Int):Int:=Wi (Wi (3+Wi (c.threads*7))+t)
def AqB (c:AB) (t:Int):Int:=Wi (Wi (3+Wi (c.threads*8))+t)
def nodeL (c:AB) (i:Int):Int:=Wi (Wi (3+Wi (c.threads*9))+Wi (i*(1+sizeC c)))
def nodesL (c:AB):Int:=if AZ c then 1+c.threads*c.nodes else 0
def totL (c:AB):Int:=if AZ c then 3+c.threads*9+nodesL c*(1+sizeC c) else 0
def chkL (c:AB):Int:=if AZ c then (if totL c>1048576 then 4 else 0) else 1
theorem GW (c:AB):0≤sizeC c∧sizeC c≤393:=by
 unfold sizeC
 cases h:AZ c
 ·rw [fT (by decide)];decide
 ·have:=IC h
  have S:=AJ h
  have:=S.t0
  have:=S.t1
  rw [fR rfl];omega
theorem DQ {c:AB} (h:AZ c=true):1≤nodesL c∧nodesL c≤4097:=by
 have h0:=h
 unfold AZ at h
 simp only [gG,BX] at h
 obtain ⟨⟨⟨⟨⟨⟨a,b⟩,_⟩,_⟩,_⟩,_⟩,_⟩:=h
 have:=AaO (a:=c.threads) (b:=c.nodes) (x:=64) (y:=64) (by omega) (by omega) (by omega) (by omega)
 unfold nodesL;rw [fR h0];omega
theorem DX {x:Int} (h : -9223372036854775808≤x∧x≤9223372036854775807):Wi x=x:=IntWalk.i64_in x h
theorem MX {c:AB} (h:AZ c=true) {i:Int} (h0:0≤i) (h1:i≤4097):nodeL c i=3+c.threads*9+i*(1+sizeC c):=by
 have S:=AJ h
 have t0:=S.t0
 have t1:=S.t1
 have b:=GW c
 have:=AaO (a:=i) (b:=1+sizeC c) (x:=4097) (y:=394) h0 h1 (by omega) (by omega)
 unfold nodeL
 rw [DX (x:=c.threads*9) (by omega),DX (x:=3+c.threads*9) (by omega),DX (x:=i*(1+sizeC c)) (by omega),DX (by omega)]
theorem AeJ (c:AB):Cd Tryz.prog 93 [aCf c,i64 4] (i64 3) []:=by
 refine Bx ?_
 repeat' (first|refine A0 ?_|fail)
 all_goals exact A2 Tryz.results93
theorem AeK (c:AB):Cd Tryz.prog 93 [aCf c,i64 5] (i64 (Wi (3+c.threads))) []:=by
 refine Bx ?_
 repeat' (first|refine A0 ?_|fail)
 all_goals exact A2 Tryz.results93
theorem AeL (c:AB):Cd Tryz.prog 93 [aCf c,i64 6] (i64 (Wi (3+Wi (c.threads*6)))) []:=by
 refine Bx ?_
 repeat' (first|refine A0 ?_|fail)
 all_goals exact A2 Tryz.results93
theorem AeM (c:AB):Cd Tryz.prog 93 [aCf c,i64 7] (i64 (Wi (3+Wi (c.threads*7)))) []:=by
 refine Bx ?_
 repeat' (first|refine A0 ?_|fail)
 all_goals exact A2 Tryz.results93
theorem AeN (c:AB):Cd Tryz.prog 93 [aCf c,i64 8] (i64 (Wi (3+Wi (c.threads*8)))) []:=by
 refine Bx ?_
 repeat' (first|refine A0 ?_|fail)
 all_goals exact A2 Tryz.results93
theorem AeO (c:AB):Cd Tryz.prog 93 [aCf c,i64 9] (i64 (Wi (3+Wi (c.threads*9)))) []:=by
 refine Bx ?_
 repeat' (first|refine A0 ?_|fail)
 all_goals exact A2 Tryz.results93
theorem AvM (c:AB) (t:Int):Cd Tryz.prog 171 [aCf c,i64 t] (i64 (Wi (3+t))) []:=by
 refine ZEN Tryz.func171 Tryz.ntmps171 ?_
 repeat' (first|(refine ZAL ?_;first|refine uA ?_|refine uK (AeJ c) ?_)|refine uC ?_|fail)
 all_goals exact A2 Tryz.results171
theorem AkE (c:AB) (t:Int):Cd Tryz.prog 173 [aCf c,i64 t] (i64 (ApQ c t)) []:=by
 refine ZEN Tryz.func173 Tryz.ntmps173 ?_
 repeat' (first|(refine ZAL ?_;first|refine uA ?_|refine uK (AeK c) ?_)|refine uC ?_|fail)
 all_goals exact A2 Tryz.results173
theorem AsC (c:AB) (t:Int):Cd Tryz.prog 165 [aCf c,i64 t] (i64 (AxP c t)) []:=by
 refine ZEN Tryz.func165 Tryz.ntmps165 ?_
 repeat' (first|(refine ZAL ?_;first|refine uA ?_|refine uK (AeL c) ?_)|refine uC ?_|fail)
 all_goals exact A2 Tryz.results165
theorem AxK (c:AB) (t:Int):Cd Tryz.prog 162 [aCf c,i64 t] (i64 (epL c t)) []:=by
 refine ZEN Tryz.func162 Tryz.ntmps162 ?_
 repeat' (first|(refine ZAL ?_;first|refine uA ?_|refine uK (AeM c) ?_)|refine uC ?_|fail)
 all_goals exact A2 Tryz.results162
theorem AmC (c:AB) (t:Int):Cd Tryz.prog 177 [aCf c,i64 t] (i64 (AqB c t)) []:=by
 refine ZEN Tryz.func177 Tryz.ntmps177 ?_
 repeat' (first|(refine ZAL ?_;first|refine uA ?_|refine uK (AeN c) ?_)|refine uC ?_|fail)
 all_goals exact A2 Tryz.results177
theorem YK (c:AB) (hs:c.start.length≤1152921504606846976) (i:Int):Cd Tryz.prog 56 [aCf c,i64 i] (i64 (nodeL c i)) []:=by
 have c2:=o_ c hs
 have b:=GW c
 unfold nodeL
 generalize sizeC c=z at *
 refine ZEN Tryz.func56 Tryz.ntmps56 ?_
 repeat' (first|refine uA ?_|(refine ZRG ?_;first|refine uR ?_|refine ZQ1 (AeO c) ?_|refine ZQ1 (c2) ?_)|refine uC ?_|refine AW.drawU (id:=1) mixed 0 qR ?_|fail)
 all_goals exact A2 Tryz.results56
theorem AiC (c:AB) (hs:c.start.length≤1152921504606846976) (i:Int):Cd Tryz.prog 35 [aCf c,i64 i] (i64 (nodeL c i)) []:=by
 have c2:=RE c hs
 have b:=GW c
 unfold nodeL
 rw [Int.mul_comm c.threads 9]
 generalize sizeC c=z at *
 refine ZEN Tryz.func35 Tryz.ntmps35 ?_
 repeat' (first|refine uA ?_|(refine ZRG ?_;first|refine uR ?_|refine ZQ1 (c2) ?_)|refine uC ?_|refine AW.drawU (id:=1) mixed 0 qR ?_|fail)
 all_goals exact A2 Tryz.results35
theorem AgV (c:AB) (hs:c.start.length≤1152921504606846976):Cd Tryz.prog 154 [aCf c] (i64 (nodesL c)) []:=by
 have c1:=ES c hs
 have b:AZ c=true→nodesL c=1+c.threads*c.nodes∧1≤nodesL c∧nodesL c≤4097:=fun h=>⟨by unfold nodesL;rw [fR h],DQ h⟩
 cases hk:AZ c
 ·rw [hk] at c1
  rw [show nodesL c=0 by unfold nodesL;rw [hk];rfl]
  refine ZEN Tryz.func154 Tryz.ntmps154 ?_
  repeat' (first|refine A7 ?_|fail)
  all_goals exact A2 Tryz.results154
 ·rw [hk] at c1
  obtain ⟨e,b1,b2⟩:=b hk
  rw [e] at b1 b2 ⊢
  refine ZEN Tryz.func154 Tryz.ntmps154 ?_
  repeat' (first|refine A7 ?_|fail)
  all_goals exact A2 Tryz.results154
theorem AbL (c:AB) (hs:c.start.length≤1152921504606846976):Cd Tryz.prog 79 [aCf c] (i64 (nodesL c)) []:=by
 have c1:=TP c hs
 have b:AZ c=true→nodesL c=c.threads*c.nodes+1∧1≤nodesL c∧nodesL c≤4097:=fun h=>⟨by unfold nodesL;rw [fR h,Int.add_comm],DQ h⟩
 cases hk:AZ c
 ·rw [hk] at c1
  rw [show nodesL c=0 by unfold nodesL;rw [hk];rfl]
  refine ZEN Tryz.func79 Tryz.ntmps79 ?_
  repeat' (first|refine A7 ?_|fail)
  all_goals exact A2 Tryz.results79
 ·rw [hk] at c1
  obtain ⟨e,b1,b2⟩:=b hk
  rw [e] at b1 b2 ⊢
  refine ZEN Tryz.func79 Tryz.ntmps79 ?_
  repeat' (first|refine A7 ?_|fail)
  all_goals exact A2 Tryz.results79
theorem UK {c:AB} (h:AZ c=true):totL c=nodeL c (nodesL c)∧totL c=3+c.threads*9+nodesL c*(1+sizeC c)∧0≤nodesL c*(1+sizeC c)∧nodesL c*(1+sizeC c)≤1614218:=by
 have b:=DQ h
 have z:=GW c
 have:=AaO (a:=nodesL c) (b:=1+sizeC c) (x:=4097) (y:=394) (by omega) (by omega) (by omega) (by omega)
 have e:totL c=3+c.threads*9+nodesL c*(1+sizeC c):=by unfold totL;rw [fR h]
 exact ⟨by rw [MX h (by omega) (by omega),e],e,by omega,by omega⟩
theorem o9_ (c:AB) (hs:c.start.length≤1152921504606846976):Cd Tryz.prog 116 [aCf c] (i64 (totL c)) []:=by
 have c1:=ES c hs
 have c2:=AgV c hs
 have c3:=YK c hs (nodesL c)
 cases hk:AZ c
 ·rw [hk] at c1
  rw [show totL c=0 by unfold totL;rw [hk];rfl]
  refine ZEN Tryz.func116 Tryz.ntmps116 ?_
  repeat' (first|refine A7 ?_|fail)
  all_goals exact A2 Tryz.results116
 ·rw [hk] at c1
  rw [(UK hk).1]
  refine ZEN Tryz.func116 Tryz.ntmps116 ?_
  repeat' (first|refine Gy ?_|fail)
  all_goals exact A2 Tryz.results116
theorem YX (c:AB) (hs:c.start.length≤1152921504606846976):Cd Tryz.prog 43 [aCf c] (i64 (totL c)) []:=by
 have c1:=TP c hs
 have c2:=AbL c hs
 have c3:=RE c hs
 cases hk:AZ c
 ·rw [hk] at c1
  rw [show totL c=0 by unfold totL;rw [hk];rfl]
  refine ZEN Tryz.func43 Tryz.ntmps43 ?_
  repeat' (first|refine A7 ?_|fail)
  all_goals exact A2 Tryz.results43
 ·rw [hk] at c1
  obtain ⟨_,e,b1,b2⟩:=UK hk
  have S:=AJ hk
  have t0:=S.t0
  have t1:=S.t1
  have z:=GW c
  have y:=DQ hk
  rw [e,Int.mul_comm c.threads 9]
  generalize sizeC c=zz at *
  generalize nodesL c=yy at *
  refine ZEN Tryz.func43 Tryz.ntmps43 ?_
  repeat' (first|refine Gy ?_|fail)
  all_goals exact A2 Tryz.results43
theorem AdR (c:AB) (hs:c.start.length≤1152921504606846976):Cd Tryz.prog 114 [aCf c] (i64 (chkL c)) []:=by
 have c1:=ES c hs
 have c2:=o9_ c hs
 unfold chkL
 generalize totL c=tt at *
 cases hk:AZ c
 ·rw [hk] at c1
  refine ZEN Tryz.func114 Tryz.ntmps114 ?_
  repeat' (first|refine A7 ?_|fail)
  all_goals exact A2 Tryz.results114
 ·rw [hk] at c1
  rw [fR rfl]
  by_cases h:tt>1048576
  ·rw [fR h]
   refine ZEN Tryz.func114 Tryz.ntmps114 ?_
   repeat' (first|refine Ai ?_|fail)
   all_goals exact A2 Tryz.results114
  ·rw [fT h]
   refine ZEN Tryz.func114 Tryz.ntmps114 ?_
   repeat' (first|refine Ai ?_|fail)
   all_goals exact A2 Tryz.results114
theorem AnE (c:AB) (hs:c.start.length≤1152921504606846976):Cd Tryz.prog 42 [aCf c] (i64 (chkL c)) []:=by
 have c1:=TP c hs
 have c2:=YX c hs
 unfold chkL
 generalize totL c=tt at *
 cases hk:AZ c
 ·rw [hk] at c1
  refine ZEN Tryz.func42 Tryz.ntmps42 ?_
  repeat' (first|refine A7 ?_|fail)
  all_goals exact A2 Tryz.results42
 ·rw [hk] at c1
  rw [fR rfl]
  by_cases h:tt>1048576
  ·rw [fR h]
   refine ZEN Tryz.func42 Tryz.ntmps42 ?_
   repeat' (first|refine Ai ?_|fail)
   all_goals exact A2 Tryz.results42
  ·rw [fT h]
   refine ZEN Tryz.func42 Tryz.ntmps42 ?_
   repeat' (first|refine Ai ?_|fail)
   all_goals exact A2 Tryz.results42
theorem OO.toH {h:AM} (k:OO h):okH h:=⟨by have:=k.c;omega,fun x hx=>by have:=k.b x hx;omega,by have:=k.w.1;omega,fun x hx=>by have:=k.w.2 x hx;omega,by have:=k.d;omega⟩
theorem WB (c:AB):(List.replicate (max (min c.threads 64) 0).toNat (⟨0,0,0,0⟩:Rst))=(newX c).done:=by
 unfold newX thN;rw [show max (min c.threads 64) 0=max 0 (min c.threads 64) by omega]
theorem AtJ (c:AB):Cd Tryz.prog 158 [i64 c.cap,i64 c.threads] (.agg [i64 (newX c).cap,.t (.lst ((newX c).list.map tI)),.t (.lst ((newX c).done.map tR))]) []:=by
 have h0:=AaA c.cap c.threads
 have e:(max (min c.threads 64) 0).toNat=(newX c).done.length:=by rw [←WB,iV]
 rw [WB,e] at h0
 change Cd _ _ _ (.agg [i64 (newX c).cap,.t (.lst []),.t (.lst ((newX c).done.map tR))]) _
 change Cd _ _ _ (.agg [i64 (newX c).cap,.nl,.sl 0 0 (newX c).done.length]) _ at h0
 generalize (newX c).done=d at *
 generalize (newX c).cap=k at *
 have h0':=Cd.frz1 h0 0 rfl aB rfl;exact Cd.drop h0' rfl
theorem AoE (c:AB) (hs:c.start.length≤1152921504606846976):Cd Tryz.prog 118 [fCf c] (fU (startO c)) []:=by
 have c1:=ES c hs
 have c2:=BbA c hs
 have c3:=n1_ c (startH c) hs (AbQ c).toH
 have c4:=AtJ c
 have c5:=n2_ c (newX c) hs (fX _) (by dsimp only [newX];rw [iV];unfold thN;omega)
 unfold startO
 generalize startH c=h at *
 generalize newX c=x at *
 cases k:AZ c
 ·rw [k] at c1
  rw [fT (by simp)] at c1 ⊢
  refine ZEN Tryz.func118 Tryz.ntmps118 ?_
  repeat' (first|(refine ZAL ?_;first|(refine kL 1 rfl ?_;first|((first|refine A_as (d:=2) rfl rfl rfl rfl ?_|refine A_move (d:=2) rfl rfl _ (.inr rfl) (y:=.sl _ _ _) rfl ?_|refine A_move (d:=2) rfl rfl _ (.inr rfl) (y:=.nl) rfl ?_|refine A_move (d:=2) rfl rfl _ (.inr rfl) (y:=.ptr _ _) rfl ?_|refine A_move (d:=2) rfl rfl _ (.inr rfl) (y:=.ln _) rfl ?_|refine A_move (d:=2) rfl rfl _ (.inr rfl) (y:=.lp _) rfl ?_|refine A_move (d:=2) rfl rfl _ (.inr rfl) (y:=.fn _ _ _) rfl ?_|refine A_move (d:=2) rfl rfl _ (.inr rfl) (y:=.sub _ _ _ _) rfl ?_|refine A_move (d:=2) rfl rfl _ (.inr rfl) (y:=.rp _ _ _ _) rfl ?_|refine A_move (d:=2) rfl rfl _ (.inr rfl) (y:=.agg _) rfl ?_|refine A_move (d:=2) rfl rfl _ (.inr rfl) (y:=.tup _) rfl ?_|refine A_move (d:=2) rfl rfl _ (.inr rfl) (y:=.mv _) rfl ?_|refine A_move (d:=2) rfl rfl _ (.inr rfl) (y:=.cl _) rfl ?_);(try refine uz 2 ?_)))|refine uA ?_|refine uK (c1) ?_)|refine uR ?_|refine uC ?_|refine Et ?_|refine ZK2 (fun hc=>?_) (fun hc=>?_)|fail)
  all_goals exact A3 Tryz.results118
 ·rw [k,fR rfl] at c1
  rw [fR rfl]
  by_cases k3:c.kind=3
  ·rw [fR k3]
   generalize putH c h=w at *
   obtain ⟨a0,a1,a2,a3,a4,a5,a6,a7,a8,a9,a10⟩:=c
   dsimp only [fCf,aCf] at *
   subst k3
   refine ZEN Tryz.func118 Tryz.ntmps118 ?_
   repeat' (first|(refine ZAL ?_;first|refine uA ?_|refine uK (c1) ?_)|(refine ZRG ?_;first|refine uR ?_|refine AT (c2) ?_|refine AT (c3) ?_)|refine uC ?_|refine Et ?_|refine ZK2 (fun hc=>?_) (fun hc=>?_)|fail)
   all_goals exact A3 Tryz.results118
  ·rw [fT k3]
   generalize putX c x=w at *
   obtain ⟨a0,a1,a2,a3,a4,a5,a6,a7,a8,a9,a10⟩:=c
   dsimp only [fCf,aCf] at *
   refine ZEN Tryz.func118 Tryz.ntmps118 ?_
   repeat' (first|(refine ZAL ?_;first|refine uA ?_|refine uK (c1) ?_)|(refine ZRG ?_;first|refine uR ?_|refine AT (c4) ?_|refine AT (c5) ?_)|refine uC ?_|refine Et ?_|refine ZK2 (fun hc=>?_) (fun hc=>?_)|fail)
   all_goals exact A3 Tryz.results118
def atL (c:AB):Nat:=(3+c.threads*9).toNat
def setupL (c:AB):List Int:=pokeL (pokeL (pokeL (List.replicate (totL c).toNat 0) 0 [65537]) (atL c) [1]) (atL c+1) (startO c)
structure Su (c:AB) (N A:Nat):Prop where
 chk:AZ c=true
 tot:totL c=(N:Int)
 nat:(totL c).toNat=N
 at0:atL c=A
 node:nodeL c 0=(A:Int)
 lo:3≤A
 room:A+1+(startO c).length≤N
 hi:N≤1048576
theorem AqG {c:AB} (h:chkL c=0) : ∃N A,Su c N A:=by
 unfold chkL at h
 cases hk:AZ c
 ·rw [hk] at h;simp at h
 ·rw [hk,fR rfl] at h
  obtain ⟨_,e,b1,b2⟩:=UK hk
  have hh : ¬totL c>1048576:=fun g=>by rw [fR g] at h;omega
  have S:=AJ hk
  have t0:=S.t0
  have y:=DQ hk
  have z:=GW c
  have hl:=(WQ c).len
  have n0:=MX hk (i:=0) (by omega) (by omega)
  have hm:1+sizeC c≤nodesL c*(1+sizeC c):=by
   have:=iD y.1 (show (0:Int)≤1+sizeC c by omega)
   omega
  refine ⟨(totL c).toNat,atL c,hk,by omega,rfl,rfl,by unfold atL;omega,by unfold atL;omega,by unfold atL;omega,by omega⟩
theorem AnY (c:AB) (hs:c.start.length≤1152921504606846976) (N A:Nat) (h:Su c N A):Cd Tryz.prog 81 [fCf c] (.tup [.ptr 0 0,i64 0]) [mB 0 N,mR 0 (setupL c)]:=by
 have h1:=h.room
 have h2:=h.lo
 have h3:=h.hi
 have hc:chkL c=0:=by unfold chkL;rw [h.chk,fR rfl,fT (by have:=h.tot;omega)]
 have c1:=AdR c hs
 have c2:=o9_ c hs
 have c3:=YK c hs 0
 have c4:=AoE c hs
 have c5:=AtH N (by omega) (by omega)
 have c6:=XU 0 1
 rw [show wordF 0 1=65537 by decide] at c6
 have e1:(pokeL (List.replicate N 0) 0 [65537]).length=N:=by rw [HX bA,iV]
 have e2:(pokeL (pokeL (List.replicate N 0) 0 [65537]) A [1]).length=N:=by rw [HX bA,e1]
 have p1:=YF 0 N (List.replicate N 0) [65537] iV (by omega) h3 0 bA
 have p2:=YF 0 N (pokeL (List.replicate N 0) 0 [65537]) [1] e1 (by omega) h3 A bA
 have p3:=YF 0 N (pokeL (pokeL (List.replicate N 0) 0 [65537]) A [1]) (startO c) e2 (by omega) h3 (A+1) (by omega)
 have e3:setupL c=pokeL (pokeL (pokeL (List.replicate N 0) 0 [65537]) A [1]) (A+1) (startO c):=by unfold setupL;rw [h.nat,h.at0]
 rw [hc] at c1
 rw [h.tot] at c2
 rw [h.node] at c3
 rw [e3]
 generalize pokeL (pokeL (pokeL (List.replicate N 0) 0 [65537]) A [1]) (A+1) (startO c)=l3 at *
 generalize pokeL (pokeL (List.replicate N 0) 0 [65537]) A [1]=l2 at *
 generalize pokeL (List.replicate N 0) 0 [65537]=l1 at *
 generalize startO c=st at *
 generalize List.replicate N (0:Int)=l0 at *
 refine ZEN Tryz.func81 Tryz.ntmps81 ?_
 repeat' (first|(refine ZAL ?_;first|refine Av ?_|refine uA ?_|refine uK (c1) ?_|refine uK (c2) ?_|refine uK (c5) ?_|refine uK (c6) ?_|(first|refine uI [1,2] (p1) ?_|refine uI [1,2] (p2) ?_|refine uI [1,2] (p3) ?_)|refine uK (c3) ?_)|(refine ZRG ?_;first|refine uR ?_|refine AT (c3) ?_|refine AT (c4) ?_|(first|refine uJ [1,2] (p1) ?_|refine uJ [1,2] (p2) ?_|refine uJ [1,2] (p3) ?_))|refine uC ?_|refine AW.drawU (id:=7) mixed 6 qR ?_|refine ZK2 (fun hc=>?_) (fun hc=>?_)|fail)
 all_goals first|(exfalso;omega)|((first|exact Fin.q Tryz.results81 (.cons (.tmp rfl) (.cons (.tmp rfl) .nil)) [1,2]|refine Fin.q Tryz.results81 (.cons (.tmp rfl) (.cons (.tmp rfl) .nil)) [1,2] (hr:=(.tupL (.cons (.t ?_) (.cons (.t ?_) .nil))))|refine Fin.mkv (rs:=_) Tryz.results81 (.cons (.tmp rfl) (.cons (.tmp rfl) .nil)) [1,2] (by decide) rfl ?_ ?_ ?_<;>repeat' (first|exact ZE1|refine ZE2 ?_ ?_|refine ZE3 ?_|exact ZE4|fail)))
def poolL (c:AB) (t:Int):List CR:=if chkL c=0∧0≤t∧t<c.threads then newL (Wi (1+Wi (t*c.nodes))) (min (max c.nodes 0) 64).toNat else []
abbrev fPl (l:List CR):AV:=.agg [i64 0,i64 0,.t (.lst (l.map tSl)),.t (.lst []),i64 0]
theorem AtZ (a n:Int):Cd Tryz.prog 159 [i64 a,i64 n] (fPl (newL a (min (max n 0) 64).toNat)) []:=by
 have h0:=AuA a n
 have e:=MU a (min (max n 0) 64).toNat
 generalize newL a (min (max n 0) 64).toNat=l at *
 rw [←e] at h0
 have h0':=Cd.frz1 h0 0 rfl aB rfl;exact Cd.drop h0' rfl
theorem AmB (c:AB) (hs:c.start.length≤1152921504606846976) (t:Int):Cd Tryz.prog 119 [aCf c,i64 t] (fPl (poolL c t)) []:=by
 have c1:=AdR c hs
 by_cases h:chkL c=0∧0≤t∧t<c.threads
 ·have c2:=AtZ (Wi (1+Wi (t*c.nodes))) c.nodes
  unfold poolL
  rw [fR h]
  obtain ⟨h1,h2,h3⟩:=h
  rw [h1] at c1
  generalize newL (Wi (1+Wi (t*c.nodes))) (min (max c.nodes 0) 64).toNat=l at *
  refine ZEN Tryz.func119 Tryz.ntmps119 ?_
  repeat' (first|refine Ai ?_|refine uS 8 (fun hb=>?_) (fun hb=>?_)|refine uS 12 (fun hb=>?_) (fun hb=>?_)|refine ZK2 (fun hc=>?_) (fun hc=>?_)|fail)
  all_goals exact H3 Tryz.results119
 ·unfold poolL
  rw [fT h]
  generalize chkL c=k at *
  by_cases h1:k=0
  ·by_cases h2:0≤t
   all_goals
    refine ZEN Tryz.func119 Tryz.ntmps119 ?_
    repeat' (first|(refine ZAL ?_;first|(refine kL 1646 rfl ?_;first|(refine zkD 18 rfl ?_;refine uA ?_;(try refine uz 18 ?_)))|refine uA ?_|refine uK (c1) ?_)|refine uC ?_|refine uS 8 (fun hb=>?_) (fun hb=>?_)|refine uS 12 (fun hb=>?_) (fun hb=>?_)|refine ZK2 (fun hc=>?_) (fun hc=>?_)|fail)
    all_goals first|(exfalso;omega)|((first|exact Fin.q Tryz.results119 (.cons (.agg rfl rfl ud51 rfl inf51 (us:=[_,_,_,_,_]) rfl rfl) .nil) []|refine Fin.q Tryz.results119 (.cons (.agg rfl rfl ud51 rfl inf51 (us:=[_,_,_,_,_]) rfl rfl) .nil) [] (hr:=(.t ?_))|refine Fin.mkv (rs:=_) Tryz.results119 (.cons (.agg rfl rfl ud51 rfl inf51 (us:=[_,_,_,_,_]) rfl rfl) .nil) [] (by decide) rfl ?_ ?_ ?_<;>repeat' (first|exact ZE1|refine ZE2 ?_ ?_|refine ZE3 ?_|exact ZE4|fail)))
  ·refine ZEN Tryz.func119 Tryz.ntmps119 ?_
   repeat' (first|(refine ZAL ?_;first|(refine kL 1646 rfl ?_;first|(refine zkD 18 rfl ?_;refine uA ?_;(try refine uz 18 ?_)))|refine uA ?_|refine uK (c1) ?_)|refine uC ?_|refine uS 8 (fun hb=>?_) (fun hb=>?_)|refine uS 12 (fun hb=>?_) (fun hb=>?_)|refine ZK2 (fun hc=>?_) (fun hc=>?_)|fail)
   all_goals exact H3 Tryz.results119
end
end Go.Proofs.YtccefppppedgkaaGreat
namespace Go.Proofs.YtccefppppedgkaaGreat
structure Mm where
 w:List Int
 log:List KQ
 cnt:List Int
 deriving DecidableEq,Inhabited
def ld (m:Mm) (a:Int):Int:=m.w.getD a.toNat 0
def cntM (l:List Int) (t:Nat):List Int :=
 let z:=l++List.replicate (t+1-l.length) 0
 z.set t (z.getD t 0+1)
def ldM (m:Mm) (t:Nat) (a:Int):Mm:=⟨m.w,m.log++[⟨t,1,a,0,ld m a,ld m a,true⟩],cntM m.cnt t⟩
def stM (m:Mm) (t:Nat) (a x:Int):Mm:=⟨m.w.set a.toNat x,m.log++[⟨t,2,a,0,ld m a,x,true⟩],cntM m.cnt t⟩
def swM (m:Mm) (t:Nat) (a want x:Int):Mm :=
 if ld m a=want then ⟨m.w.set a.toNat x,m.log++[⟨t,3,a,want,ld m a,x,true⟩],cntM m.cnt t⟩ else ⟨m.w,m.log++[⟨t,3,a,want,ld m a,ld m a,false⟩],cntM m.cnt t⟩
def NX (x:Int):Int:=x%18446744073709551616
def adM (m:Mm) (t:Nat) (a z:Int):Mm:=⟨m.w.set a.toNat (NX (ld m a+z)),m.log++[⟨t,4,a,0,ld m a,NX (ld m a+z),true⟩],cntM m.cnt t⟩
def aSeq (_c:AB) (i:Int):Int:=3+i
def EI (c:AB) (i:Int):Int:=3+c.threads+i*5
def aHaz (c:AB) (i:Int):Int:=3+c.threads*6+i
def aEpo (c:AB) (i:Int):Int:=3+c.threads*7+i
def aMail (c:AB) (i:Int):Int:=3+c.threads*8+i
def aNode (c:AB) (i:Int):Int:=3+c.threads*9+i*(1+sizeC c)
def wdF (r:HA):Int:=word r.index r.tag
def rdF (w:Int):HA:=⟨rdI w,rdT w⟩
def GM (g:Int):Int:=2*g+1
def letsW (w g:Int):Bool:=decide (w=0∨w=GM g)
def behindW (a b:Int):Bool:=decide (rankR (readR a)<rankR (readR b))
def YR (l:List Int):Option (AU × Int) :=
 match l with
 | [h,a,b,c,p]=>if KS h a b c p then some (reqR h a b c,p) else none
 |_=>none
def IL (q:AU) (p:Int):List Int:=if BR q then HM q p else []
def takeP (last:Int) (p:BV):BV :=
 let s:=takeL last p.own.index p.own.tag p.spent p.free
 ⟨⟨s.i,s.t⟩,s.F,p.old,s.sp⟩
def leaveP (p:BV):BV:=⟨⟨0,0⟩,p.free,p.old,p.spent⟩
def awayP (p:BV) (r:HA) (stamp:Int):BV:=⟨p.own,p.free,p.old++[⟨r,stamp⟩],p.spent⟩
def backP (p:BV) (pr:CD→Bool):BV:=⟨p.own,FR pr p.free p.old,EZ pr p.old,p.spent⟩
def whyP (p:BV):Int:=if p.own.tag≠0∨p.free≠[] then 0 else if p.old≠[] then 6 else 7
def needsP (p:BV) (limit:Int):Bool:=decide (p.old≠[])&&(decide (limit≤(p.old.length:Int))||decide (whyP p≠0))
def allO (c:AB) (l:List Int) (ops:List DOp):List Int:=ops.foldl (fun l x=>FN c l x.thread x.seq x.req) l
def againT (c:AB) (x:AC):AC :=
 { x with pc:=if x.slow=false∧c.patience<x.round then 16 else if x.slow=true∧3<x.round then 19 else 3 }
def failT (c:AB) (x:AC):AC:=againT c { x with round:=x.round+1,found:=[]}
def refuseT (x:AC):AC:={ x with res:=⟨x.seq,0,whyP x.pool,0⟩,scans:=false,pc:=28 }
def takeT (c:AB) (x:AC):AC :=
 let y:={ x with pool:=takeP c.tags x.pool }
 if y.pool.own.tag≠0 then againT c { y with scans:=false }
 else if y.pool.old≠[]∧x.scans=false then { y with scans:=true,pc:=24 }
 else refuseT y
def nextSeqT (c:AB) (x:AC):AC:=if x.i+1=c.threads then { x with i:=0,tri:=0,pc:=11 } else { x with i:=x.i+1,pc:=8 }
def HG (t:Nat) (x:AC):List DOp:=if x.slow then isort KR x.found else isort KR x.found++[⟨t,x.seq,0,x.req⟩]
def nextMailT (c:AB) (t:Nat) (x:AC):AC :=
 if x.i+1<c.threads then { x with i:=x.i+1,tri:=0,pc:=11 }
 else { x with i:=0,tri:=0,pc:=13,found:=HG t x,nxt:=allO c x.buf (HG t x)}
def scannedT (c:AB) (x:AC):AC:=if x.scans then takeT c x else { x with pc:=28 }
def AK:AC:=⟨0,0,⟨0,0,0,false,[]⟩,false,0,0,0,0,0,false,⟨0,0⟩,[],[],0,[],[],[],⟨⟨0,0⟩,[],[],0⟩,⟨0,0,0,0⟩,false,false,false⟩
def finishT (x:AC):AC:={ AK with seq:=x.seq,req:=x.req,res:=x.res,pool:=x.pool }
structure SO where
 x:AC
 m:Mm
 note:Int:=0
 won:Bool:=false
 ops:List DOp:=[]
 deriving DecidableEq,Inhabited
def ownedT (c:AB) (x:AC) (m:Mm):SO :=
 if x.waits then ⟨finishT x,m,3,false,[]⟩
 else if needsP x.pool c.retire then ⟨{ x with pc:=24 },m,0,false,[]⟩
 else ⟨{ x with pc:=28 },m,0,false,[]⟩
def overT (x:AC) (w:Int):Bool:=decide ((readR w).seq=x.seq∧(readR w).code≠14)
def s1 (_c:AB) (t:Nat) (x:AC) (m:Mm):SO:=⟨{ x with epoch:=ld m 1,pc:=2 },ldM m t 1,0,false,[]⟩
def s2 (c:AB) (t:Nat) (x:AC) (m:Mm):SO:=⟨takeT c x,stM m t (aEpo c t) (GM x.epoch),0,false,[]⟩
def s3 (_c:AB) (t:Nat) (x:AC) (m:Mm):SO:=⟨{ x with base:=rdF (ld m 0),pc:=4 },ldM m t 0,0,false,[]⟩
def s4 (c:AB) (t:Nat) (x:AC) (m:Mm):SO:=⟨{ x with pc:=5 },stM m t (aHaz c t) (wdF x.base),0,false,[]⟩
def s5 (c:AB) (t:Nat) (x:AC) (m:Mm):SO:=⟨if ld m 0=wdF x.base then { x with pc:=6 } else failT c x,ldM m t 0,0,false,[]⟩
def s6 (c:AB) (t:Nat) (x:AC) (m:Mm):SO:=⟨if ld m (aNode c x.base.index)=x.base.tag then { x with i:=0,buf:=[],pc:=7 } else failT c x,ldM m t (aNode c x.base.index),0,false,[]⟩
def BB (c:AB) (t:Nat) (x:AC) (w:Int):AC :=
 let y:={ x with buf:=x.buf++[w],i:=x.i+1 }
 if y.i<sizeC c then y
 else if x.slow=true∧(readR (doneL c y.buf t)).seq=x.seq then { y with i:=0,found:=[],res:=readR (doneL c y.buf t),pc:=20 }
 else { y with i:=0,found:=[],pc:=8 }
def s7 (c:AB) (t:Nat) (x:AC) (m:Mm):SO:=⟨BB c t x (ld m (aNode c x.base.index+1+x.i)),ldM m t (aNode c x.base.index+1+x.i),0,false,[]⟩
def s8 (c:AB) (t:Nat) (x:AC) (m:Mm):SO :=
 let w:=ld m (aSeq c x.i)
 ⟨if 1048575<w∨w≤(readR (doneL c x.buf x.i)).seq then nextSeqT c { x with word:=w } else { x with word:=w,j:=0,args:=[],pc:=9 },ldM m t (aSeq c x.i),0,false,[]⟩
def s9 (c:AB) (t:Nat) (x:AC) (m:Mm):SO :=
 let y:={ x with args:=x.args++[ld m (EI c x.i+x.j)],j:=x.j+1 }
 ⟨if y.j=5 then { y with pc:=10 } else y,ldM m t (EI c x.i+x.j),0,false,[]⟩
def CE (c:AB) (x:AC) (w:Int):AC :=
 match YR x.args with
 |some (q,p)=>if w=x.word then nextSeqT c { x with found:=x.found++[⟨x.i,x.word,p,q⟩]} else nextSeqT c x
 |none=>nextSeqT c x
def s10 (c:AB) (t:Nat) (x:AC) (m:Mm):SO:=⟨CE c x (ld m (aSeq c x.i)),ldM m t (aSeq c x.i),0,false,[]⟩
def s11 (c:AB) (t:Nat) (x:AC) (m:Mm):SO :=
 let w:=ld m (aMail c x.i)
 ⟨if behindW w (doneL c x.buf x.i) then { x with word:=w,pc:=12 } else nextMailT c t { x with word:=w },ldM m t (aMail c x.i),0,false,[]⟩
def s12 (c:AB) (t:Nat) (x:AC) (m:Mm):SO :=
 let y:={ x with tri:=x.tri+1 }
 ⟨if ld m (aMail c x.i)=x.word∨y.tri=2 then nextMailT c t y else { y with pc:=11 },swM m t (aMail c x.i) x.word (doneL c x.buf x.i),0,false,[]⟩
def s13 (c:AB) (t:Nat) (x:AC) (m:Mm):SO:=⟨{ x with pc:=14 },stM m t (aNode c x.pool.own.index) x.pool.own.tag,0,false,[]⟩
def s14 (c:AB) (t:Nat) (x:AC) (m:Mm):SO :=
 let y:={ x with i:=x.i+1 }
 ⟨if y.i=(x.nxt.length:Int) then { y with pc:=15 } else y,stM m t (aNode c x.pool.own.index+1+x.i) (x.nxt.getD x.i.toNat 0),0,false,[]⟩
def s15 (c:AB) (t:Nat) (x:AC) (m:Mm):SO :=
 if ld m 0=wdF x.base then ⟨{ x with won:=true,res:=readR (doneL c x.nxt t),pool:=leaveP x.pool,pc:=20 },swM m t 0 (wdF x.base) (wdF x.pool.own),0,true,x.found⟩
 else ⟨failT c x,swM m t 0 (wdF x.base) (wdF x.pool.own),0,false,[]⟩
def s16 (_c:AB) (t:Nat) (x:AC) (m:Mm):SO:=⟨{ x with args:=IL x.req (ld m 2%4294967296),j:=0,pc:=17 },adM m t 2 1,0,false,[]⟩
def s17 (c:AB) (t:Nat) (x:AC) (m:Mm):SO :=
 let y:={ x with j:=x.j+1 }
 ⟨if y.j=5 then { y with pc:=18 } else y,stM m t (EI c t+x.j) (x.args.getD x.j.toNat 0),0,false,[]⟩
def s18 (c:AB) (t:Nat) (x:AC) (m:Mm):SO:=⟨{ x with slow:=true,round:=1,pc:=3 },stM m t (aSeq c t) x.seq,0,false,[]⟩
def s19 (c:AB) (t:Nat) (x:AC) (m:Mm):SO:=⟨{ x with res:=readR (ld m (aMail c t)),pc:=20 },ldM m t (aMail c t),0,false,[]⟩
def s20 (c:AB) (t:Nat) (x:AC) (m:Mm):SO:=⟨{ x with tri:=0,pc:=if x.won then 21 else 22 },stM m t (aHaz c t) 0,0,false,[]⟩
def s21 (_c:AB) (t:Nat) (x:AC) (m:Mm):SO:=⟨{ x with pool:=awayP x.pool x.base (ld m 1),pc:=22 },ldM m t 1,0,false,[]⟩
def s22 (c:AB) (t:Nat) (x:AC) (m:Mm):SO :=
 let w:=ld m (aMail c t)
 let y:={ x with word:=w }
 if behindW w (wordR x.res) then ⟨{ y with pc:=23 },ldM m t (aMail c t),0,false,[]⟩ else ownedT c y (ldM m t (aMail c t))
def s23 (c:AB) (t:Nat) (x:AC) (m:Mm):SO :=
 let y:={ x with tri:=x.tri+1,pc:=22 }
 if ld m (aMail c t)=x.word∨y.tri=2 then ownedT c y (swM m t (aMail c t) x.word (wordR x.res)) else ⟨y,swM m t (aMail c t) x.word (wordR x.res),0,false,[]⟩
def s24 (c:AB) (t:Nat) (x:AC) (m:Mm):SO :=
 let y:={ x with word:=ld m 1,pool:=backP x.pool (prE (ld m 1)),i:=0,all_:=true,pc:=25 }
 ⟨if needsP y.pool c.retire then y else scannedT c y,ldM m t 1,0,false,[]⟩
def s25 (c:AB) (t:Nat) (x:AC) (m:Mm):SO :=
 let w:=ld m (aEpo c x.i)
 let y:={ x with all_:=x.all_&&(decide (x.i=(t:Int))||letsW w x.word),i:=x.i+1 }
 ⟨if y.i<c.threads then y else { y with i:=0,seen:=[],pc:=if y.all_ then 26 else 27 },ldM m t (aEpo c x.i),0,false,[]⟩
def s26 (c:AB) (t:Nat) (x:AC) (m:Mm):SO :=
 let y:={ x with pc:=27,pool:=if ld m 1=x.word then backP x.pool (prE (x.word+1)) else x.pool }
 ⟨if needsP y.pool c.retire then y else scannedT c y,swM m t 1 x.word (x.word+1),0,false,[]⟩
def s27 (c:AB) (t:Nat) (x:AC) (m:Mm):SO :=
 let y:={ x with seen:=x.seen++[ld m (aHaz c x.i)],i:=x.i+1 }
 ⟨if y.i=c.threads then scannedT c { y with pool:=backP y.pool (prS y.seen)} else y,ldM m t (aHaz c x.i),0,false,[]⟩
def s28 (c:AB) (t:Nat) (x:AC) (m:Mm):SO :=
 if x.res.code=14 then ⟨{ AK with pc:=29,seq:=x.seq,req:=x.req,res:=x.res,pool:=x.pool,waits:=true },stM m t (aEpo c t) 0,2,false,[]⟩
 else ⟨finishT x,stM m t (aEpo c t) 0,3,false,[]⟩
def s29 (c:AB) (t:Nat) (x:AC) (m:Mm):SO :=
 let w:=ld m (aMail c t)
 if overT x w then ⟨finishT { x with res:=readR w },ldM m t (aMail c t),3,false,[]⟩ else ⟨{ x with pc:=30 },ldM m t (aMail c t),0,false,[]⟩
def s30 (_c:AB) (t:Nat) (x:AC) (m:Mm):SO:=⟨{ x with epoch:=ld m 1,pc:=31 },ldM m t 1,0,false,[]⟩
def s31 (c:AB) (t:Nat) (x:AC) (m:Mm):SO:=⟨{ x with pc:=32 },stM m t (aEpo c t) (GM x.epoch),0,false,[]⟩
def s32 (_c:AB) (t:Nat) (x:AC) (m:Mm):SO:=⟨{ x with base:=rdF (ld m 0),pc:=33 },ldM m t 0,0,false,[]⟩
def s33 (c:AB) (t:Nat) (x:AC) (m:Mm):SO:=⟨{ x with pc:=34 },stM m t (aHaz c t) (wdF x.base),0,false,[]⟩
def s34 (_c:AB) (t:Nat) (x:AC) (m:Mm):SO:=⟨{ x with word:=0,pc:=if ld m 0=wdF x.base then 35 else 37 },ldM m t 0,0,false,[]⟩
def s35 (c:AB) (t:Nat) (x:AC) (m:Mm):SO:=⟨{ x with pc:=if ld m (aNode c x.base.index)=x.base.tag then 36 else 37 },ldM m t (aNode c x.base.index),0,false,[]⟩
def s36 (c:AB) (t:Nat) (x:AC) (m:Mm):SO :=
 let a:=aNode c x.base.index+1+sizeC c-c.threads+t
 ⟨{ x with word:=ld m a,pc:=37 },ldM m t a,0,false,[]⟩
def s37 (c:AB) (t:Nat) (x:AC) (m:Mm):SO:=⟨{ x with pc:=38 },stM m t (aHaz c t) 0,0,false,[]⟩
def s38 (c:AB) (t:Nat) (x:AC) (m:Mm):SO :=
 ⟨if overT x x.word then { x with res:=readR x.word,tri:=0,pc:=22 } else { x with pc:=29 },stM m t (aEpo c t) 0,0,false,[]⟩
def AN (k:Nat) (c:AB) (t:Nat) (x:AC) (m:Mm):SO :=
 match k with
 |1=>s1 c t x m|2=>s2 c t x m|3=>s3 c t x m|4=>s4 c t x m|5=>s5 c t x m|6=>s6 c t x m|7=>s7 c t x m|8=>s8 c t x m|9=>s9 c t x m|10=>s10 c t x m
 |11=>s11 c t x m|12=>s12 c t x m|13=>s13 c t x m|14=>s14 c t x m|15=>s15 c t x m|16=>s16 c t x m|17=>s17 c t x m|18=>s18 c t x m|19=>s19 c t x m|20=>s20 c t x m
 |21=>s21 c t x m|22=>s22 c t x m|23=>s23 c t x m|24=>s24 c t x m|25=>s25 c t x m|26=>s26 c t x m|27=>s27 c t x m|28=>s28 c t x m|29=>s29 c t x m|30=>s30 c t x m
 |31=>s31 c t x m|32=>s32 c t x m|33=>s33 c t x m|34=>s34 c t x m|35=>s35 c t x m|36=>s36 c t x m|37=>s37 c t x m|38=>s38 c t x m
 |_=>⟨x,m,0,false,[]⟩
def stepT (c:AB) (t:Nat) (x:AC) (m:Mm):SO:=AN x.pc.toNat c t x m
end Go.Proofs.YtccefppppedgkaaGreat
