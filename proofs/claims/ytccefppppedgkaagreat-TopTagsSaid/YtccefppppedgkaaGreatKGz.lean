/- Joined: XTDone, XTObjW, XTLayout, XTStart, XTSetup, XTopM, XTMemD, XTTaskA, XTTeeG, XTopN, XTopA, XTopB, XTopC, XTopD, XTopE, XTopF, XTopG, XTopH, XTopI, XTopJ, XTopK, XTopL, XTopO, XTopP, XTopQ, XTopR, XTopS, XTopT, XTopU, XTopW, XTTaskP. -/
import Derived.Test.YtccefppppedgkaaGreatKGw
import Derived.Test.YtccefppppedgkaaGreatKGr
import Derived.Test.YtccefppppedgkaaGreatKGy
set_option linter.unusedVariables false
set_option linter.unusedSimpArgs false
set_option linter.unnecessarySimpa false
set_option maxRecDepth 100000
set_option maxHeartbeats 64000000
namespace Go.Proofs.YtccefppppedgkaaGreat
open Go.RowKit
section
attribute [local irreducible] AL AW RG Fin C Cd Cio AI AF AN
def doneL (c:AB) (l:List Int) (t:Int):Int:=if AY c=true∧(0≤t∧t<c.threads)∧stateC c+t<l.length then l.getD (stateC c+t).toNat 0 else 0
theorem WG (c:AB) (hs:c.start.length≤1152921504606846976) (l:List Int) (t:Int) (hl:l.length≤1152921504606846976):Cd Tryz.prog 176 [aCf c,.ln (l.map tU),i64 t] (u64 (doneL c l t)) []:=by
 have c1:=EH c hs
 have c2:=s2_ c hs
 have h1:(l.map tU).length=l.length:=fH _
 unfold doneL
 by_cases hA:AY c=true∧(0≤t∧t<c.threads)∧stateC c+t<l.length
 ·rw [fL hA]
  obtain ⟨h0,h2,h3⟩:=hA
  rw [h0] at c1
  have b:=JP h0
  have S:=(AJ h0).t1
  generalize stateC c=z at *
  obtain ⟨a,ha⟩ : ∃a,l[(z+t).toNat]? = some a:=⟨_,ZgE (by omega)⟩
  rw [fK,ha]
  refine C2 ?_
  repeat' (first|refine Dw ?_|fail)
  all_goals exact A2 Tryz.results176
 ·rw [fM hA]
  have zb:0≤stateC c∧stateC c≤329:=by
   cases hk:AY c
   ·have e:stateC c=0:=by unfold stateC;rw [hk];rfl
    omega
   ·exact JP hk
  cases h0:AY c
  ·rw [h0] at c1
   clear hA
   refine C2 ?_
   repeat' (first|refine Dw ?_|refine uS 14 (fun hb=>?_) (fun hb=>?_)|refine uS 20 (fun hb=>?_) (fun hb=>?_)|fail)
   all_goals exact A2 Tryz.results176
  ·rw [h0] at c1
   have S:=(AJ h0).t1
   have hB : ¬((0≤t∧t<c.threads)∧stateC c+t<l.length):=fun h=>hA ⟨h0,h⟩
   generalize stateC c=z at *
   by_cases ht:0≤t∧t<c.threads
   ·refine C2 ?_
    repeat' (first|refine Dw ?_|fail)
    all_goals exact A2 Tryz.results176
   ·by_cases h0:t<0
    ·refine C2 ?_
     repeat' (first|refine C3 ?_|fail)
     all_goals exact A2 Tryz.results176
    ·refine C2 ?_
     repeat' (first|refine C3 ?_|fail)
     all_goals exact A2 Tryz.results176
end
def appX (lifo:Bool) (x:CL) (t n:Int) (q:AT):CL:=⟨x.cap,(GD lifo x.cap x.list x.done t n q.kind q.value).1,(GD lifo x.cap x.list x.done t n q.kind q.value).2⟩
theorem AgD {d:List Rst} {t:Int} {r x:Rst} (h:x∈JA d t r):x∈d∨x=r:=by
 unfold JA at h;split at h
 ·exact iN h
 ·exact .inl h
theorem AhW (lifo:Bool) (cap:Int) (l:List Int) (d:List Rst) (t s k v:Int) (hl:(l.length:Int)≤cap) (hc:0≤cap∧cap≤16) (hL : ∀y∈l,0≤y∧y≤4294967295) (hv:0≤v∧v≤4294967295) (hs:0≤s∧s≤1048575) :
  (((GD lifo cap l d t s k v).1.length:Int)≤cap ∧ ∀y∈(GD lifo cap l d t s k v).1,0≤y∧y≤4294967295) ∧ ∃r:Rst,(GD lifo cap l d t s k v).2=JA d t r∧goodR r=true∧r.seq=s:=by
 have hg : ∀i,0≤l.getD i 0∧l.getD i 0<4294967296:=fun i=>by
  rw [fK]
  cases hx:l[i]? with
  |none=>decide
  |some a=>have:=hL a (fI hx);simp only [jB];omega
 have good : ∀e z:Int,(0≤e∧e<256)→(0≤z∧z<4294967296)→goodR ⟨s,0,e,z⟩=true:=fun e z he hz=>EC.2 ⟨hz,he,⟨by dsimp only;decide,by dsimp only;decide⟩,hs⟩
 unfold GD
 split
 ·split
  ·exact ⟨⟨hl,hL⟩,_,rfl,good _ _ (by decide) (by decide),rfl⟩
  ·refine ⟨⟨by rw [fJ];simp only [fY,gB];omega,fun y hy=>?_⟩,_,rfl,good _ _ (by decide) (by decide),rfl⟩
   rcases gJ.1 hy with hy|hy
   ·exact hL y hy
   ·rw [iT] at hy;subst hy;exact hv
 ·split
  ·split
   ·exact ⟨⟨hl,hL⟩,_,rfl,good _ _ (by decide) (by decide),rfl⟩
   ·split
    ·refine ⟨⟨by dsimp only;rw [fQ];omega,fun y hy=>hL y (iH hy)⟩,_,rfl,good _ _ (by decide) (hg _),rfl⟩
    ·refine ⟨⟨by dsimp only;rw [gD];omega,fun y hy=>hL y (gW hy)⟩,_,rfl,good _ _ (by decide) (hg _),rfl⟩
  ·split
   ·exact ⟨⟨hl,hL⟩,_,rfl,good _ _ (by decide) (by omega),rfl⟩
   ·split
    ·exact ⟨⟨hl,hL⟩,_,rfl,good _ _ (by decide) (by omega),rfl⟩
    ·exact ⟨⟨hl,hL⟩,_,rfl,good _ _ (by decide) (by decide),rfl⟩
theorem PA {c:AB} {x:CL} {lifo:Bool} {t n:Int} {q:AT} (f:DT c x=true) (hq:BR q=true) (hn:0≤n∧n≤1048575):DT c (appX lifo x t n q)=true:=by
 obtain ⟨h0,h1,h2,⟨h3,h4⟩,h5,h6⟩:=DM.1 f
 have hs:=AJ h0
 have hb:=hs.h1 h1
 obtain ⟨-, -,q3, -, -⟩:=LS.1 hq
 obtain ⟨g1,r,g2,g3,g4⟩:=AhW lifo x.cap x.list x.done t n q.kind q.value (by omega) (by omega) h4 q3 hn
 rw [←h2] at h3
 unfold appX
 refine DM.2 ⟨h0,h1,h2,by rw [←h2];exact g1,by dsimp only;rw [g2,EN];exact h5,fun y hy=>?_⟩
 dsimp only at hy
 rw [g2] at hy
 rcases AgD hy with hy|rfl
 ·exact h6 y hy
 ·exact g3
def newX (c:AB):CL:=⟨c.cap,[],List.replicate (thN c) ⟨0,0,0,0⟩⟩
theorem ZD {c:AB} (k:AY c=true) (k3:c.kind≠3):DT c (newX c)=true:=by
 have hs:=AJ k
 have hb:=hs.h1 k3
 have ht:((thN c:Nat):Int)=c.threads:=by have:=hs.t0;have:=hs.t1;unfold thN;omega
 refine DM.2 ⟨k,k3,rfl,⟨by dsimp only [newX,List.length_nil];omega,fun y hy=>by cases hy⟩,by dsimp only [newX];rw [iM];exact ht,fun r hr=>?_⟩
 rw [iS hr];decide
def startO (c:AB):List Int:=if AY c then (if c.kind=3 then putH c (startH c) else putX c (newX c)) else []
def AqT (c:AB) (t n:Int) (q:AT):Bool:=decide (0≤t∧t<c.threads)&&decide (0≤n∧n≤1048575)&&BR q
def FD (c:AB) (l:List Int) (t n:Int) (q:AT):List Int :=
 if AqT c t n q then
  if c.kind=3 then (if GV c l then putH c (applyH c (readH c l) t n q) else l)
  else if FK c l then putX c (appX (decide (c.kind=2)) (readX c l) t n q) else l
 else l
structure Isw (c:AB) (l:List Int):Prop where
 no:AY c=false→l=[]
 h:AY c=true→c.kind=3→GV c l=true
 x:AY c=true→c.kind≠3→FK c l=true
theorem VD (c:AB):Isw c (startO c):=by
 unfold startO
 refine ⟨fun k=>by rw [fM (by simp [k])],fun k k3=>?_,fun k k3=>?_⟩
 ·rw [fL k,fL k3,ZZ,ZC k k3]
 ·rw [fL k,fM k3,a_,ZD k k3]
theorem Isw.len {c:AB} {l:List Int} (s:Isw c l):(l.length:Int)=sizeC c:=by
 cases k:AY c
 ·rw [s.no k];unfold sizeC;rw [fM (by simp [k])];rfl
 ·by_cases k3:c.kind=3
  ·obtain ⟨f,e⟩:=NO (s.h k k3)
   have:=MI f
   rwa [e] at this
  ·obtain ⟨f,e⟩:=NP (s.x k k3)
   have:=MJ f
   rwa [e] at this
theorem AgN (c:AB):okU (startO c):=by
 unfold startO
 split
 ·split
  ·exact AfP _ _
  ·exact AfR _ _
 ·intro w hw;cases hw
theorem YK {c:AB} {l:List Int} (h:okU l) (t n:Int) (q:AT):okU (FD c l t n q):=by
 unfold FD
 split
 ·split
  ·split
   ·exact AfP _ _
   ·exact h
  ·split
   ·exact AfR _ _
   ·exact h
 ·exact h
theorem PQ {c:AB} {l:List Int} (h:okU l) (t:Int):0≤doneL c l t∧doneL c l t≤18446744073709551615:=by
 unfold doneL
 split
 ·rw [fK]
  cases hx:l[(stateC c+t).toNat]? with
  |none=>decide
  |some a=>exact h a (fI hx)
 ·decide
section
attribute [local irreducible] AL AW RG Fin C Cd Cio AI AF AN
abbrev Wi (x:Int):Int:=IntKind.i64.wrap x
def AnF (c:AB) (t:Int):Int:=Wi (Wi (3+c.threads)+Wi (t*5))
def AuZ (c:AB) (t:Int):Int:=Wi (Wi (3+Wi (c.threads*6))+t)
def epL (c:AB) (t:Int):Int:=Wi (Wi (3+Wi (c.threads*7))+t)
def AnN (c:AB) (t:Int):Int:=Wi (Wi (3+Wi (c.threads*8))+t)
def UO (c:AB) (i:Int):Int:=Wi (Wi (3+Wi (c.threads*9))+Wi (i*(1+sizeC c)))
def nodesL (c:AB):Int:=if AY c then 1+c.threads*c.nodes else 0
def totL (c:AB):Int:=if AY c then 3+c.threads*9+nodesL c*(1+sizeC c) else 0
def chkL (c:AB):Int:=if AY c then (if totL c>1048576 then 4 else 0) else 1
theorem JZ (c:AB):0≤sizeC c∧sizeC c≤393:=by
 unfold sizeC
 cases h:AY c
 ·rw [fM (by decide)];decide
 ·have:=JP h
  have S:=AJ h
  have:=S.t0
  have:=S.t1
  rw [fL rfl];omega
theorem EJ {c:AB} (h:AY c=true):1≤nodesL c∧nodesL c≤4097:=by
 have h0:=h
 unfold AY at h
 simp only [fX,CB] at h
 obtain ⟨⟨⟨⟨⟨⟨a,b⟩,_⟩,_⟩,_⟩,_⟩,_⟩:=h
 have:=w4_ (a:=c.threads) (b:=c.nodes) (x:=64) (y:=64) (by omega) (by omega) (by omega) (by omega)
 unfold nodesL;rw [fL h0];omega
theorem DQ {x:Int} (h : -9223372036854775808≤x∧x≤9223372036854775807):Wi x=x:=IntWalk.i64_in x h
theorem RT {c:AB} (h:AY c=true) {i:Int} (h0:0≤i) (h1:i≤4097):UO c i=3+c.threads*9+i*(1+sizeC c):=by
 have S:=AJ h
 have t0:=S.t0
 have t1:=S.t1
 have b:=JZ c
 have:=w4_ (a:=i) (b:=1+sizeC c) (x:=4097) (y:=394) h0 h1 (by omega) (by omega)
 unfold UO
 rw [DQ (x:=c.threads*9) (by omega),DQ (x:=3+c.threads*9) (by omega),DQ (x:=i*(1+sizeC c)) (by omega),DQ (by omega)]
theorem AcK (c:AB):Cd Tryz.prog 93 [aCf c,i64 4] (i64 3) []:=by
 refine Bo ?_
 repeat' (first|refine A0 ?_|fail)
 all_goals exact A2 Tryz.results93
theorem AcL (c:AB):Cd Tryz.prog 93 [aCf c,i64 5] (i64 (Wi (3+c.threads))) []:=by
 refine Bo ?_
 repeat' (first|refine A0 ?_|fail)
 all_goals exact A2 Tryz.results93
theorem AcM (c:AB):Cd Tryz.prog 93 [aCf c,i64 6] (i64 (Wi (3+Wi (c.threads*6)))) []:=by
 refine Bo ?_
 repeat' (first|refine A0 ?_|fail)
 all_goals exact A2 Tryz.results93
theorem AcN (c:AB):Cd Tryz.prog 93 [aCf c,i64 7] (i64 (Wi (3+Wi (c.threads*7)))) []:=by
 refine Bo ?_
 repeat' (first|refine A0 ?_|fail)
 all_goals exact A2 Tryz.results93
theorem AcO (c:AB):Cd Tryz.prog 93 [aCf c,i64 8] (i64 (Wi (3+Wi (c.threads*8)))) []:=by
 refine Bo ?_
 repeat' (first|refine A0 ?_|fail)
 all_goals exact A2 Tryz.results93
theorem AcP (c:AB):Cd Tryz.prog 93 [aCf c,i64 9] (i64 (Wi (3+Wi (c.threads*9)))) []:=by
 refine Bo ?_
 repeat' (first|refine A0 ?_|fail)
 all_goals exact A2 Tryz.results93
theorem AsX (c:AB) (t:Int):Cd Tryz.prog 171 [aCf c,i64 t] (i64 (Wi (3+t))) []:=by
 refine ZEN Tryz.func171 Tryz.ntmps171 ?_
 repeat' (first|(refine ZAL ?_;first|refine uA ?_|refine uK (AcK c) ?_)|refine uC ?_|fail)
 all_goals exact A2 Tryz.results171
theorem AhZ (c:AB) (t:Int):Cd Tryz.prog 173 [aCf c,i64 t] (i64 (AnF c t)) []:=by
 refine ZEN Tryz.func173 Tryz.ntmps173 ?_
 repeat' (first|(refine ZAL ?_;first|refine uA ?_|refine uK (AcL c) ?_)|refine uC ?_|fail)
 all_goals exact A2 Tryz.results173
theorem ApQ (c:AB) (t:Int):Cd Tryz.prog 165 [aCf c,i64 t] (i64 (AuZ c t)) []:=by
 refine ZEN Tryz.func165 Tryz.ntmps165 ?_
 repeat' (first|(refine ZAL ?_;first|refine uA ?_|refine uK (AcM c) ?_)|refine uC ?_|fail)
 all_goals exact A2 Tryz.results165
theorem AuU (c:AB) (t:Int):Cd Tryz.prog 162 [aCf c,i64 t] (i64 (epL c t)) []:=by
 refine ZEN Tryz.func162 Tryz.ntmps162 ?_
 repeat' (first|(refine ZAL ?_;first|refine uA ?_|refine uK (AcN c) ?_)|refine uC ?_|fail)
 all_goals exact A2 Tryz.results162
theorem AjX (c:AB) (t:Int):Cd Tryz.prog 177 [aCf c,i64 t] (i64 (AnN c t)) []:=by
 refine ZEN Tryz.func177 Tryz.ntmps177 ?_
 repeat' (first|(refine ZAL ?_;first|refine uA ?_|refine uK (AcO c) ?_)|refine uC ?_|fail)
 all_goals exact A2 Tryz.results177
theorem WX (c:AB) (hs:c.start.length≤1152921504606846976) (i:Int):Cd Tryz.prog 56 [aCf c,i64 i] (i64 (UO c i)) []:=by
 have c2:=j7_ c hs
 have b:=JZ c
 unfold UO
 generalize sizeC c=z at *
 refine ZEN Tryz.func56 Tryz.ntmps56 ?_
 repeat' (first|refine uA ?_|(refine ZRG ?_;first|refine uR ?_|refine ZQ1 (AcP c) ?_|refine ZQ1 (c2) ?_)|refine uC ?_|refine AW.drawU (id:=1) mixed 0 qR ?_|fail)
 all_goals exact A2 Tryz.results56
theorem AeT (c:AB) (hs:c.start.length≤1152921504606846976):Cd Tryz.prog 154 [aCf c] (i64 (nodesL c)) []:=by
 have c1:=EH c hs
 have b:AY c=true→nodesL c=1+c.threads*c.nodes∧1≤nodesL c∧nodesL c≤4097:=fun h=>⟨by unfold nodesL;rw [fL h],EJ h⟩
 cases hk:AY c
 ·rw [hk] at c1
  rw [show nodesL c=0 by unfold nodesL;rw [hk];rfl]
  refine ZEN Tryz.func154 Tryz.ntmps154 ?_
  repeat' (first|refine A6 ?_|fail)
  all_goals exact A2 Tryz.results154
 ·rw [hk] at c1
  obtain ⟨e,b1,b2⟩:=b hk
  rw [e] at b1 b2 ⊢
  refine ZEN Tryz.func154 Tryz.ntmps154 ?_
  repeat' (first|refine A6 ?_|fail)
  all_goals exact A2 Tryz.results154
theorem y8_ (c:AB) (hs:c.start.length≤1152921504606846976):Cd Tryz.prog 79 [aCf c] (i64 (nodesL c)) []:=by
 have c1:=SD c hs
 have b:AY c=true→nodesL c=c.threads*c.nodes+1∧1≤nodesL c∧nodesL c≤4097:=fun h=>⟨by unfold nodesL;rw [fL h,Int.add_comm],EJ h⟩
 cases hk:AY c
 ·rw [hk] at c1
  rw [show nodesL c=0 by unfold nodesL;rw [hk];rfl]
  refine ZEN Tryz.func79 Tryz.ntmps79 ?_
  repeat' (first|refine A6 ?_|fail)
  all_goals exact A2 Tryz.results79
 ·rw [hk] at c1
  obtain ⟨e,b1,b2⟩:=b hk
  rw [e] at b1 b2 ⊢
  refine ZEN Tryz.func79 Tryz.ntmps79 ?_
  repeat' (first|refine A6 ?_|fail)
  all_goals exact A2 Tryz.results79
theorem XX {c:AB} (h:AY c=true):totL c=UO c (nodesL c)∧totL c=3+c.threads*9+nodesL c*(1+sizeC c)∧0≤nodesL c*(1+sizeC c)∧nodesL c*(1+sizeC c)≤1614218:=by
 have b:=EJ h
 have z:=JZ c
 have:=w4_ (a:=nodesL c) (b:=1+sizeC c) (x:=4097) (y:=394) (by omega) (by omega) (by omega) (by omega)
 have e:totL c=3+c.threads*9+nodesL c*(1+sizeC c):=by unfold totL;rw [fL h]
 exact ⟨by rw [RT h (by omega) (by omega),e],e,by omega,by omega⟩
theorem k5_ (c:AB) (hs:c.start.length≤1152921504606846976):Cd Tryz.prog 116 [aCf c] (i64 (totL c)) []:=by
 have c1:=EH c hs
 have c2:=AeT c hs
 have c3:=WX c hs (nodesL c)
 cases hk:AY c
 ·rw [hk] at c1
  rw [show totL c=0 by unfold totL;rw [hk];rfl]
  refine ZEN Tryz.func116 Tryz.ntmps116 ?_
  repeat' (first|refine A6 ?_|fail)
  all_goals exact A2 Tryz.results116
 ·rw [hk] at c1
  rw [(XX hk).1]
  refine ZEN Tryz.func116 Tryz.ntmps116 ?_
  repeat' (first|refine Gk ?_|fail)
  all_goals exact A2 Tryz.results116
theorem r3_ (c:AB) (hs:c.start.length≤1152921504606846976):Cd Tryz.prog 43 [aCf c] (i64 (totL c)) []:=by
 have c1:=SD c hs
 have c2:=y8_ c hs
 have c3:=AlL c hs
 cases hk:AY c
 ·rw [hk] at c1
  rw [show totL c=0 by unfold totL;rw [hk];rfl]
  refine ZEN Tryz.func43 Tryz.ntmps43 ?_
  repeat' (first|refine A6 ?_|fail)
  all_goals exact A2 Tryz.results43
 ·rw [hk] at c1
  obtain ⟨_,e,b1,b2⟩:=XX hk
  have S:=AJ hk
  have t0:=S.t0
  have t1:=S.t1
  have z:=JZ c
  have y:=EJ hk
  rw [e,Int.mul_comm c.threads 9]
  generalize sizeC c=zz at *
  generalize nodesL c=yy at *
  refine ZEN Tryz.func43 Tryz.ntmps43 ?_
  repeat' (first|refine Gk ?_|fail)
  all_goals exact A2 Tryz.results43
theorem AbT (c:AB) (hs:c.start.length≤1152921504606846976):Cd Tryz.prog 114 [aCf c] (i64 (chkL c)) []:=by
 have c1:=EH c hs
 have c2:=k5_ c hs
 unfold chkL
 generalize totL c=tt at *
 cases hk:AY c
 ·rw [hk] at c1
  refine ZEN Tryz.func114 Tryz.ntmps114 ?_
  repeat' (first|refine A6 ?_|fail)
  all_goals exact A2 Tryz.results114
 ·rw [hk] at c1
  rw [fL rfl]
  by_cases h:tt>1048576
  ·rw [fL h]
   refine ZEN Tryz.func114 Tryz.ntmps114 ?_
   repeat' (first|refine Ai ?_|fail)
   all_goals exact A2 Tryz.results114
  ·rw [fM h]
   refine ZEN Tryz.func114 Tryz.ntmps114 ?_
   repeat' (first|refine Ai ?_|fail)
   all_goals exact A2 Tryz.results114
theorem AlB (c:AB) (hs:c.start.length≤1152921504606846976):Cd Tryz.prog 42 [aCf c] (i64 (chkL c)) []:=by
 have c1:=SD c hs
 have c2:=r3_ c hs
 unfold chkL
 generalize totL c=tt at *
 cases hk:AY c
 ·rw [hk] at c1
  refine ZEN Tryz.func42 Tryz.ntmps42 ?_
  repeat' (first|refine A6 ?_|fail)
  all_goals exact A2 Tryz.results42
 ·rw [hk] at c1
  rw [fL rfl]
  by_cases h:tt>1048576
  ·rw [fL h]
   refine ZEN Tryz.func42 Tryz.ntmps42 ?_
   repeat' (first|refine Ai ?_|fail)
   all_goals exact A2 Tryz.results42
  ·rw [fM h]
   refine ZEN Tryz.func42 Tryz.ntmps42 ?_
   repeat' (first|refine Ai ?_|fail)
   all_goals exact A2 Tryz.results42
theorem NR.toH {h:AM} (k:NR h):okH h:=⟨by have:=k.c;omega,fun x hx=>by have:=k.b x hx;omega,by have:=k.w.1;omega,fun x hx=>by have:=k.w.2 x hx;omega,by have:=k.d;omega⟩
theorem UN (c:AB):(List.replicate (max (min c.threads 64) 0).toNat (⟨0,0,0,0⟩:Rst))=(newX c).done:=by
 unfold newX thN;rw [show max (min c.threads 64) 0=max 0 (min c.threads 64) by omega]
theorem AqX (c:AB):Cd Tryz.prog 158 [i64 c.cap,i64 c.threads] (.agg [i64 (newX c).cap,.t (.lst ((newX c).list.map tI)),.t (.lst ((newX c).done.map tR))]) []:=by
 have h0:=v_ c.cap c.threads
 have e:(max (min c.threads 64) 0).toNat=(newX c).done.length:=by rw [←UN,iM]
 rw [UN,e] at h0
 change Cd _ _ _ (.agg [i64 (newX c).cap,.t (.lst []),.t (.lst ((newX c).done.map tR))]) _
 change Cd _ _ _ (.agg [i64 (newX c).cap,.nl,.sl 0 0 (newX c).done.length]) _ at h0
 generalize (newX c).done=d at *
 generalize (newX c).cap=k at *
 have h0':=Cd.frz1 h0 0 rfl aB rfl;exact Cd.drop h0' rfl
theorem AlX (c:AB) (hs:c.start.length≤1152921504606846976):Cd Tryz.prog 118 [fCf c] (fU (startO c)) []:=by
 have c1:=EH c hs
 have c2:=AyL c hs
 have c3:=i9_ c (startH c) hs (z3_ c).toH
 have c4:=AqX c
 have c5:=j_ c (newX c) hs (fO _) (by dsimp only [newX];rw [iM];unfold thN;omega)
 unfold startO
 generalize startH c=h at *
 generalize newX c=x at *
 cases k:AY c
 ·rw [k] at c1
  rw [fM (by simp)] at c1 ⊢
  refine ZEN Tryz.func118 Tryz.ntmps118 ?_
  repeat' (first|(refine ZAL ?_;first|(refine kL 1 rfl ?_;first|((first|refine A_as (d:=2) rfl rfl rfl rfl ?_|refine A_move (d:=2) rfl rfl _ (.inr rfl) (y:=.sl _ _ _) rfl ?_|refine A_move (d:=2) rfl rfl _ (.inr rfl) (y:=.nl) rfl ?_|refine A_move (d:=2) rfl rfl _ (.inr rfl) (y:=.ptr _ _) rfl ?_|refine A_move (d:=2) rfl rfl _ (.inr rfl) (y:=.ln _) rfl ?_|refine A_move (d:=2) rfl rfl _ (.inr rfl) (y:=.lp _) rfl ?_|refine A_move (d:=2) rfl rfl _ (.inr rfl) (y:=.fn _ _ _) rfl ?_|refine A_move (d:=2) rfl rfl _ (.inr rfl) (y:=.sub _ _ _ _) rfl ?_|refine A_move (d:=2) rfl rfl _ (.inr rfl) (y:=.rp _ _ _ _) rfl ?_|refine A_move (d:=2) rfl rfl _ (.inr rfl) (y:=.agg _) rfl ?_|refine A_move (d:=2) rfl rfl _ (.inr rfl) (y:=.tup _) rfl ?_|refine A_move (d:=2) rfl rfl _ (.inr rfl) (y:=.mv _) rfl ?_|refine A_move (d:=2) rfl rfl _ (.inr rfl) (y:=.cl _) rfl ?_);(try refine uz 2 ?_)))|refine uA ?_|refine uK (c1) ?_)|refine uR ?_|refine uC ?_|refine Ej ?_|refine ZK2 (fun hc=>?_) (fun hc=>?_)|fail)
  all_goals exact A4 Tryz.results118
 ·rw [k,fL rfl] at c1
  rw [fL rfl]
  by_cases k3:c.kind=3
  ·rw [fL k3]
   generalize putH c h=w at *
   obtain ⟨a0,a1,a2,a3,a4,a5,a6,a7,a8,a9,a10⟩:=c
   dsimp only [fCf,aCf] at *
   subst k3
   refine ZEN Tryz.func118 Tryz.ntmps118 ?_
   repeat' (first|(refine ZAL ?_;first|refine uA ?_|refine uK (c1) ?_)|(refine ZRG ?_;first|refine uR ?_|refine AZ (c2) ?_|refine AZ (c3) ?_)|refine uC ?_|refine Ej ?_|refine ZK2 (fun hc=>?_) (fun hc=>?_)|fail)
   all_goals exact A4 Tryz.results118
  ·rw [fM k3]
   generalize putX c x=w at *
   obtain ⟨a0,a1,a2,a3,a4,a5,a6,a7,a8,a9,a10⟩:=c
   dsimp only [fCf,aCf] at *
   refine ZEN Tryz.func118 Tryz.ntmps118 ?_
   repeat' (first|(refine ZAL ?_;first|refine uA ?_|refine uK (c1) ?_)|(refine ZRG ?_;first|refine uR ?_|refine AZ (c4) ?_|refine AZ (c5) ?_)|refine uC ?_|refine Ej ?_|refine ZK2 (fun hc=>?_) (fun hc=>?_)|fail)
   all_goals exact A4 Tryz.results118
def atL (c:AB):Nat:=(3+c.threads*9).toNat
def setupL (c:AB):List Int:=pokeL (pokeL (pokeL (List.replicate (totL c).toNat 0) 0 [65537]) (atL c) [1]) (atL c+1) (startO c)
structure Su (c:AB) (N A:Nat):Prop where
 chk:AY c=true
 tot:totL c=(N:Int)
 nat:(totL c).toNat=N
 at0:atL c=A
 node:UO c 0=(A:Int)
 lo:3≤A
 room:A+1+(startO c).length≤N
 hi:N≤1048576
theorem AnS {c:AB} (h:chkL c=0) : ∃N A,Su c N A:=by
 unfold chkL at h
 cases hk:AY c
 ·rw [hk] at h;simp at h
 ·rw [hk,fL rfl] at h
  obtain ⟨_,e,b1,b2⟩:=XX hk
  have hh : ¬totL c>1048576:=fun g=>by rw [fL g] at h;omega
  have S:=AJ hk
  have t0:=S.t0
  have y:=EJ hk
  have z:=JZ c
  have hl:=(VD c).len
  have n0:=RT hk (i:=0) (by omega) (by omega)
  have hm:1+sizeC c≤nodesL c*(1+sizeC c):=by
   have:=iD y.1 (show (0:Int)≤1+sizeC c by omega)
   omega
  refine ⟨(totL c).toNat,atL c,hk,by omega,rfl,rfl,by unfold atL;omega,by unfold atL;omega,by unfold atL;omega,by omega⟩
theorem AlR (c:AB) (hs:c.start.length≤1152921504606846976) (N A:Nat) (h:Su c N A):Cd Tryz.prog 81 [fCf c] (.tup [.ptr 0 0,i64 0]) [mB 0 N,mR 0 (setupL c)]:=by
 have h1:=h.room
 have h2:=h.lo
 have h3:=h.hi
 have hc:chkL c=0:=by unfold chkL;rw [h.chk,fL rfl,fM (by have:=h.tot;omega)]
 have c1:=AbT c hs
 have c2:=k5_ c hs
 have c3:=WX c hs 0
 have c4:=AlX c hs
 have c5:=AqV N (by omega) (by omega)
 have c6:=WI 0 1
 rw [show wordF 0 1=65537 by decide] at c6
 have e1:(pokeL (List.replicate N 0) 0 [65537]).length=N:=by rw [HK bA,iM]
 have e2:(pokeL (pokeL (List.replicate N 0) 0 [65537]) A [1]).length=N:=by rw [HK bA,e1]
 have p1:=WR 0 N (List.replicate N 0) [65537] iM (by omega) h3 0 bA
 have p2:=WR 0 N (pokeL (List.replicate N 0) 0 [65537]) [1] e1 (by omega) h3 A bA
 have p3:=WR 0 N (pokeL (pokeL (List.replicate N 0) 0 [65537]) A [1]) (startO c) e2 (by omega) h3 (A+1) (by omega)
 have e3:setupL c=pokeL (pokeL (pokeL (List.replicate N 0) 0 [65537]) A [1]) (A+1) (startO c):=by unfold setupL;rw [h.nat,h.at0]
 rw [hc] at c1
 rw [h.tot] at c2
 rw [h.node] at c3
 rw [e3]
 generalize pokeL (pokeL (pokeL (List.replicate N 0) 0 [65537]) A [1]) (A+1) (startO c)=l3 at *
 generalize pokeL (pokeL (List.replicate N 0) 0 [65537]) A [1]=l2 at *
 generalize pokeL (List.replicate N 0) 0 [65537]=l1 at *
 generalize startO c=st at *
 generalize List.replicate N (0:Int)=l0 at *
 refine ZEN Tryz.func81 Tryz.ntmps81 ?_
 repeat' (first|(refine ZAL ?_;first|refine Al ?_|refine uA ?_|refine uK (c1) ?_|refine uK (c2) ?_|refine uK (c5) ?_|refine uK (c6) ?_|(first|refine uI [1,2] (p1) ?_|refine uI [1,2] (p2) ?_|refine uI [1,2] (p3) ?_)|refine uK (c3) ?_)|(refine ZRG ?_;first|refine uR ?_|refine AZ (c3) ?_|refine AZ (c4) ?_|(first|refine uJ [1,2] (p1) ?_|refine uJ [1,2] (p2) ?_|refine uJ [1,2] (p3) ?_))|refine uC ?_|refine AW.drawU (id:=7) mixed 6 qR ?_|refine ZK2 (fun hc=>?_) (fun hc=>?_)|fail)
 all_goals first|(exfalso;omega)|((first|exact Fin.q Tryz.results81 (.cons (.tmp rfl) (.cons (.tmp rfl) .nil)) [1,2]|refine Fin.q Tryz.results81 (.cons (.tmp rfl) (.cons (.tmp rfl) .nil)) [1,2] (hr:=(.tupL (.cons (.t ?_) (.cons (.t ?_) .nil))))|refine Fin.mkv (rs:=_) Tryz.results81 (.cons (.tmp rfl) (.cons (.tmp rfl) .nil)) [1,2] (by decide) rfl ?_ ?_ ?_<;>repeat' (first|exact ZE1|refine ZE2 ?_ ?_|refine ZE3 ?_|exact ZE4|fail)))
def poolL (c:AB) (t:Int):List CN:=if chkL c=0∧0≤t∧t<c.threads then newL (Wi (1+Wi (t*c.nodes))) (min (max c.nodes 0) 64).toNat else []
abbrev fPl (l:List CN):AV:=.agg [i64 0,i64 0,.t (.lst (l.map tSl)),.t (.lst []),i64 0]
theorem ArL (a n:Int):Cd Tryz.prog 159 [i64 a,i64 n] (fPl (newL a (min (max n 0) 64).toNat)) []:=by
 have h0:=ArM a n
 have e:=MC a (min (max n 0) 64).toNat
 generalize newL a (min (max n 0) 64).toNat=l at *
 rw [←e] at h0
 have h0':=Cd.frz1 h0 0 rfl aB rfl;exact Cd.drop h0' rfl
theorem AjW (c:AB) (hs:c.start.length≤1152921504606846976) (t:Int):Cd Tryz.prog 119 [aCf c,i64 t] (fPl (poolL c t)) []:=by
 have c1:=AbT c hs
 by_cases h:chkL c=0∧0≤t∧t<c.threads
 ·have c2:=ArL (Wi (1+Wi (t*c.nodes))) c.nodes
  unfold poolL
  rw [fL h]
  obtain ⟨h1,h2,h3⟩:=h
  rw [h1] at c1
  generalize newL (Wi (1+Wi (t*c.nodes))) (min (max c.nodes 0) 64).toNat=l at *
  refine ZEN Tryz.func119 Tryz.ntmps119 ?_
  repeat' (first|refine Ai ?_|refine uS 8 (fun hb=>?_) (fun hb=>?_)|refine uS 12 (fun hb=>?_) (fun hb=>?_)|refine ZK2 (fun hc=>?_) (fun hc=>?_)|fail)
  all_goals exact Gs Tryz.results119
 ·unfold poolL
  rw [fM h]
  generalize chkL c=k at *
  by_cases h1:k=0
  ·by_cases h2:0≤t
   all_goals
    refine ZEN Tryz.func119 Tryz.ntmps119 ?_
    repeat' (first|(refine ZAL ?_;first|(refine kL 1646 rfl ?_;first|(refine zkD 18 rfl ?_;refine uA ?_;(try refine uz 18 ?_)))|refine uA ?_|refine uK (c1) ?_)|refine uC ?_|refine uS 8 (fun hb=>?_) (fun hb=>?_)|refine uS 12 (fun hb=>?_) (fun hb=>?_)|refine ZK2 (fun hc=>?_) (fun hc=>?_)|fail)
    all_goals first|(exfalso;omega)|((first|exact Fin.q Tryz.results119 (.cons (.agg rfl rfl ud51 rfl inf51 (us:=[_,_,_,_,_]) rfl rfl) .nil) []|refine Fin.q Tryz.results119 (.cons (.agg rfl rfl ud51 rfl inf51 (us:=[_,_,_,_,_]) rfl rfl) .nil) [] (hr:=(.t ?_))|refine Fin.mkv (rs:=_) Tryz.results119 (.cons (.agg rfl rfl ud51 rfl inf51 (us:=[_,_,_,_,_]) rfl rfl) .nil) [] (by decide) rfl ?_ ?_ ?_<;>repeat' (first|exact ZE1|refine ZE2 ?_ ?_|refine ZE3 ?_|exact ZE4|fail)))
  ·refine ZEN Tryz.func119 Tryz.ntmps119 ?_
   repeat' (first|(refine ZAL ?_;first|(refine kL 1646 rfl ?_;first|(refine zkD 18 rfl ?_;refine uA ?_;(try refine uz 18 ?_)))|refine uA ?_|refine uK (c1) ?_)|refine uC ?_|refine uS 8 (fun hb=>?_) (fun hb=>?_)|refine uS 12 (fun hb=>?_) (fun hb=>?_)|refine ZK2 (fun hc=>?_) (fun hc=>?_)|fail)
   all_goals exact Gs Tryz.results119
end
end Go.Proofs.YtccefppppedgkaaGreat
namespace Go.Proofs.YtccefppppedgkaaGreat
structure Mm where
 w:List Int
 log:List HR
 cnt:List Int
 deriving DecidableEq,Inhabited
def ld (m:Mm) (a:Int):Int:=m.w.getD a.toNat 0
def cntM (l:List Int) (t:Nat):List Int :=
 let z:=l++List.replicate (t+1-l.length) 0
 z.set t (z.getD t 0+1)
def ldM (m:Mm) (t:Nat) (a:Int):Mm:=⟨m.w,m.log++[⟨t,1,a,0,ld m a,ld m a,true⟩],cntM m.cnt t⟩
def stM (m:Mm) (t:Nat) (a x:Int):Mm:=⟨m.w.set a.toNat x,m.log++[⟨t,2,a,0,ld m a,x,true⟩],cntM m.cnt t⟩
def swM (m:Mm) (t:Nat) (a want x:Int):Mm :=
 if ld m a=want then ⟨m.w.set a.toNat x,m.log++[⟨t,3,a,want,ld m a,x,true⟩],cntM m.cnt t⟩ else ⟨m.w,m.log++[⟨t,3,a,want,ld m a,ld m a,false⟩],cntM m.cnt t⟩
def NB (x:Int):Int:=x%18446744073709551616
def adM (m:Mm) (t:Nat) (a z:Int):Mm:=⟨m.w.set a.toNat (NB (ld m a+z)),m.log++[⟨t,4,a,0,ld m a,NB (ld m a+z),true⟩],cntM m.cnt t⟩
def aSeq (_c:AB) (i:Int):Int:=3+i
def EP (c:AB) (i:Int):Int:=3+c.threads+i*5
def aHaz (c:AB) (i:Int):Int:=3+c.threads*6+i
def aEpo (c:AB) (i:Int):Int:=3+c.threads*7+i
def aMail (c:AB) (i:Int):Int:=3+c.threads*8+i
def aNode (c:AB) (i:Int):Int:=3+c.threads*9+i*(1+sizeC c)
def wdF (r:IW):Int:=word r.index r.tag
def rdF (w:Int):IW:=⟨rdI w,rdT w⟩
def GE (g:Int):Int:=2*g+1
def letsW (w g:Int):Bool:=decide (w=0∨w=GE g)
def behindW (a b:Int):Bool:=decide (rankR (readR a)<rankR (readR b))
def XG (l:List Int):Option (AT × Int) :=
 match l with
 | [h,a,b,c,p]=>if KG h a b c p then some (reqR h a b c,p) else none
 |_=>none
def HW (q:AT) (p:Int):List Int:=if BR q then HD q p else []
def takeP (last:Int) (p:BV):BV :=
 let s:=takeL last p.own.index p.own.tag p.spent p.free
 ⟨⟨s.i,s.t⟩,s.F,p.old,s.sp⟩
def leaveP (p:BV):BV:=⟨⟨0,0⟩,p.free,p.old,p.spent⟩
def awayP (p:BV) (r:IW) (stamp:Int):BV:=⟨p.own,p.free,p.old++[⟨r,stamp⟩],p.spent⟩
def backP (p:BV) (pr:CD→Bool):BV:=⟨p.own,FH pr p.free p.old,FV pr p.old,p.spent⟩
def whyP (p:BV):Int:=if p.own.tag≠0∨p.free≠[] then 0 else if p.old≠[] then 6 else 7
def needsP (p:BV) (limit:Int):Bool:=decide (p.old≠[])&&(decide (limit≤(p.old.length:Int))||decide (whyP p≠0))
def allO (c:AB) (l:List Int) (ops:List DOp):List Int:=ops.foldl (fun l x=>FD c l x.thread x.seq x.req) l
def againT (c:AB) (x:AC):AC :=
 { x with pc:=if x.slow=false∧c.patience<x.round then 16 else if x.slow=true∧3<x.round then 19 else 3 }
def failT (c:AB) (x:AC):AC:=againT c { x with round:=x.round+1,found:=[]}
def refuseT (x:AC):AC:={ x with res:=⟨x.seq,0,whyP x.pool,0⟩,scans:=false,pc:=28 }
def takeT (c:AB) (x:AC):AC :=
 let y:={ x with pool:=takeP c.tags x.pool }
 if y.pool.own.tag≠0 then againT c { y with scans:=false }
 else if y.pool.old≠[]∧x.scans=false then { y with scans:=true,pc:=24 }
 else refuseT y
def nextSeqT (c:AB) (x:AC):AC:=if x.i+1=c.threads then { x with i:=0,tri:=0,pc:=11 } else { x with i:=x.i+1,pc:=8 }
def GW (t:Nat) (x:AC):List DOp:=if x.slow then isort KF x.found else isort KF x.found++[⟨t,x.seq,0,x.req⟩]
def nextMailT (c:AB) (t:Nat) (x:AC):AC :=
 if x.i+1<c.threads then { x with i:=x.i+1,tri:=0,pc:=11 }
 else { x with i:=0,tri:=0,pc:=13,found:=GW t x,nxt:=allO c x.buf (GW t x)}
def scannedT (c:AB) (x:AC):AC:=if x.scans then takeT c x else { x with pc:=28 }
def AK:AC:=⟨0,0,⟨0,0,0,false,[]⟩,false,0,0,0,0,0,false,⟨0,0⟩,[],[],0,[],[],[],⟨⟨0,0⟩,[],[],0⟩,⟨0,0,0,0⟩,false,false,false⟩
def finishT (x:AC):AC:={ AK with seq:=x.seq,req:=x.req,res:=x.res,pool:=x.pool }
structure SO where
 x:AC
 m:Mm
 note:Int:=0
 won:Bool:=false
 ops:List DOp:=[]
 deriving DecidableEq,Inhabited
def ownedT (c:AB) (x:AC) (m:Mm):SO :=
 if x.waits then ⟨finishT x,m,3,false,[]⟩
 else if needsP x.pool c.retire then ⟨{ x with pc:=24 },m,0,false,[]⟩
 else ⟨{ x with pc:=28 },m,0,false,[]⟩
def overT (x:AC) (w:Int):Bool:=decide ((readR w).seq=x.seq∧(readR w).code≠14)
def s1 (_c:AB) (t:Nat) (x:AC) (m:Mm):SO:=⟨{ x with epoch:=ld m 1,pc:=2 },ldM m t 1,0,false,[]⟩
def s2 (c:AB) (t:Nat) (x:AC) (m:Mm):SO:=⟨takeT c x,stM m t (aEpo c t) (GE x.epoch),0,false,[]⟩
def s3 (_c:AB) (t:Nat) (x:AC) (m:Mm):SO:=⟨{ x with base:=rdF (ld m 0),pc:=4 },ldM m t 0,0,false,[]⟩
def s4 (c:AB) (t:Nat) (x:AC) (m:Mm):SO:=⟨{ x with pc:=5 },stM m t (aHaz c t) (wdF x.base),0,false,[]⟩
def s5 (c:AB) (t:Nat) (x:AC) (m:Mm):SO:=⟨if ld m 0=wdF x.base then { x with pc:=6 } else failT c x,ldM m t 0,0,false,[]⟩
def s6 (c:AB) (t:Nat) (x:AC) (m:Mm):SO:=⟨if ld m (aNode c x.base.index)=x.base.tag then { x with i:=0,buf:=[],pc:=7 } else failT c x,ldM m t (aNode c x.base.index),0,false,[]⟩
def BA (c:AB) (t:Nat) (x:AC) (w:Int):AC :=
 let y:={ x with buf:=x.buf++[w],i:=x.i+1 }
 if y.i<sizeC c then y
 else if x.slow=true∧(readR (doneL c y.buf t)).seq=x.seq then { y with i:=0,found:=[],res:=readR (doneL c y.buf t),pc:=20 }
 else { y with i:=0,found:=[],pc:=8 }
def s7 (c:AB) (t:Nat) (x:AC) (m:Mm):SO:=⟨BA c t x (ld m (aNode c x.base.index+1+x.i)),ldM m t (aNode c x.base.index+1+x.i),0,false,[]⟩
def s8 (c:AB) (t:Nat) (x:AC) (m:Mm):SO :=
 let w:=ld m (aSeq c x.i)
 ⟨if 1048575<w∨w≤(readR (doneL c x.buf x.i)).seq then nextSeqT c { x with word:=w } else { x with word:=w,j:=0,args:=[],pc:=9 },ldM m t (aSeq c x.i),0,false,[]⟩
def s9 (c:AB) (t:Nat) (x:AC) (m:Mm):SO :=
 let y:={ x with args:=x.args++[ld m (EP c x.i+x.j)],j:=x.j+1 }
 ⟨if y.j=5 then { y with pc:=10 } else y,ldM m t (EP c x.i+x.j),0,false,[]⟩
def CE (c:AB) (x:AC) (w:Int):AC :=
 match XG x.args with
 |some (q,p)=>if w=x.word then nextSeqT c { x with found:=x.found++[⟨x.i,x.word,p,q⟩]} else nextSeqT c x
 |none=>nextSeqT c x
def s10 (c:AB) (t:Nat) (x:AC) (m:Mm):SO:=⟨CE c x (ld m (aSeq c x.i)),ldM m t (aSeq c x.i),0,false,[]⟩
def s11 (c:AB) (t:Nat) (x:AC) (m:Mm):SO :=
 let w:=ld m (aMail c x.i)
 ⟨if behindW w (doneL c x.buf x.i) then { x with word:=w,pc:=12 } else nextMailT c t { x with word:=w },ldM m t (aMail c x.i),0,false,[]⟩
def s12 (c:AB) (t:Nat) (x:AC) (m:Mm):SO :=
 let y:={ x with tri:=x.tri+1 }
 ⟨if ld m (aMail c x.i)=x.word∨y.tri=2 then nextMailT c t y else { y with pc:=11 },swM m t (aMail c x.i) x.word (doneL c x.buf x.i),0,false,[]⟩
def s13 (c:AB) (t:Nat) (x:AC) (m:Mm):SO:=⟨{ x with pc:=14 },stM m t (aNode c x.pool.own.index) x.pool.own.tag,0,false,[]⟩
def s14 (c:AB) (t:Nat) (x:AC) (m:Mm):SO :=
 let y:={ x with i:=x.i+1 }
 ⟨if y.i=(x.nxt.length:Int) then { y with pc:=15 } else y,stM m t (aNode c x.pool.own.index+1+x.i) (x.nxt.getD x.i.toNat 0),0,false,[]⟩
def s15 (c:AB) (t:Nat) (x:AC) (m:Mm):SO :=
 if ld m 0=wdF x.base then ⟨{ x with won:=true,res:=readR (doneL c x.nxt t),pool:=leaveP x.pool,pc:=20 },swM m t 0 (wdF x.base) (wdF x.pool.own),0,true,x.found⟩
 else ⟨failT c x,swM m t 0 (wdF x.base) (wdF x.pool.own),0,false,[]⟩
def s16 (_c:AB) (t:Nat) (x:AC) (m:Mm):SO:=⟨{ x with args:=HW x.req (ld m 2%4294967296),j:=0,pc:=17 },adM m t 2 1,0,false,[]⟩
def s17 (c:AB) (t:Nat) (x:AC) (m:Mm):SO :=
 let y:={ x with j:=x.j+1 }
 ⟨if y.j=5 then { y with pc:=18 } else y,stM m t (EP c t+x.j) (x.args.getD x.j.toNat 0),0,false,[]⟩
def s18 (c:AB) (t:Nat) (x:AC) (m:Mm):SO:=⟨{ x with slow:=true,round:=1,pc:=3 },stM m t (aSeq c t) x.seq,0,false,[]⟩
def s19 (c:AB) (t:Nat) (x:AC) (m:Mm):SO:=⟨{ x with res:=readR (ld m (aMail c t)),pc:=20 },ldM m t (aMail c t),0,false,[]⟩
def s20 (c:AB) (t:Nat) (x:AC) (m:Mm):SO:=⟨{ x with tri:=0,pc:=if x.won then 21 else 22 },stM m t (aHaz c t) 0,0,false,[]⟩
def s21 (_c:AB) (t:Nat) (x:AC) (m:Mm):SO:=⟨{ x with pool:=awayP x.pool x.base (ld m 1),pc:=22 },ldM m t 1,0,false,[]⟩
def s22 (c:AB) (t:Nat) (x:AC) (m:Mm):SO :=
 let w:=ld m (aMail c t)
 let y:={ x with word:=w }
 if behindW w (wordR x.res) then ⟨{ y with pc:=23 },ldM m t (aMail c t),0,false,[]⟩ else ownedT c y (ldM m t (aMail c t))
def s23 (c:AB) (t:Nat) (x:AC) (m:Mm):SO :=
 let y:={ x with tri:=x.tri+1,pc:=22 }
 if ld m (aMail c t)=x.word∨y.tri=2 then ownedT c y (swM m t (aMail c t) x.word (wordR x.res)) else ⟨y,swM m t (aMail c t) x.word (wordR x.res),0,false,[]⟩
def s24 (c:AB) (t:Nat) (x:AC) (m:Mm):SO :=
 let y:={ x with word:=ld m 1,pool:=backP x.pool (prE (ld m 1)),i:=0,all_:=true,pc:=25 }
 ⟨if needsP y.pool c.retire then y else scannedT c y,ldM m t 1,0,false,[]⟩
def s25 (c:AB) (t:Nat) (x:AC) (m:Mm):SO :=
 let w:=ld m (aEpo c x.i)
 let y:={ x with all_:=x.all_&&(decide (x.i=(t:Int))||letsW w x.word),i:=x.i+1 }
 ⟨if y.i<c.threads then y else { y with i:=0,seen:=[],pc:=if y.all_ then 26 else 27 },ldM m t (aEpo c x.i),0,false,[]⟩
def s26 (c:AB) (t:Nat) (x:AC) (m:Mm):SO :=
 let y:={ x with pc:=27,pool:=if ld m 1=x.word then backP x.pool (prE (x.word+1)) else x.pool }
 ⟨if needsP y.pool c.retire then y else scannedT c y,swM m t 1 x.word (x.word+1),0,false,[]⟩
def s27 (c:AB) (t:Nat) (x:AC) (m:Mm):SO :=
 let y:={ x with seen:=x.seen++[ld m (aHaz c x.i)],i:=x.i+1 }
 ⟨if y.i=c.threads then scannedT c { y with pool:=backP y.pool (prS y.seen)} else y,ldM m t (aHaz c x.i),0,false,[]⟩
def s28 (c:AB) (t:Nat) (x:AC) (m:Mm):SO :=
 if x.res.code=14 then ⟨{ AK with pc:=29,seq:=x.seq,req:=x.req,res:=x.res,pool:=x.pool,waits:=true },stM m t (aEpo c t) 0,2,false,[]⟩
 else ⟨finishT x,stM m t (aEpo c t) 0,3,false,[]⟩
def s29 (c:AB) (t:Nat) (x:AC) (m:Mm):SO :=
 let w:=ld m (aMail c t)
 if overT x w then ⟨finishT { x with res:=readR w },ldM m t (aMail c t),3,false,[]⟩ else ⟨{ x with pc:=30 },ldM m t (aMail c t),0,false,[]⟩
def s30 (_c:AB) (t:Nat) (x:AC) (m:Mm):SO:=⟨{ x with epoch:=ld m 1,pc:=31 },ldM m t 1,0,false,[]⟩
def s31 (c:AB) (t:Nat) (x:AC) (m:Mm):SO:=⟨{ x with pc:=32 },stM m t (aEpo c t) (GE x.epoch),0,false,[]⟩
def s32 (_c:AB) (t:Nat) (x:AC) (m:Mm):SO:=⟨{ x with base:=rdF (ld m 0),pc:=33 },ldM m t 0,0,false,[]⟩
def s33 (c:AB) (t:Nat) (x:AC) (m:Mm):SO:=⟨{ x with pc:=34 },stM m t (aHaz c t) (wdF x.base),0,false,[]⟩
def s34 (_c:AB) (t:Nat) (x:AC) (m:Mm):SO:=⟨{ x with word:=0,pc:=if ld m 0=wdF x.base then 35 else 37 },ldM m t 0,0,false,[]⟩
def s35 (c:AB) (t:Nat) (x:AC) (m:Mm):SO:=⟨{ x with pc:=if ld m (aNode c x.base.index)=x.base.tag then 36 else 37 },ldM m t (aNode c x.base.index),0,false,[]⟩
def s36 (c:AB) (t:Nat) (x:AC) (m:Mm):SO :=
 let a:=aNode c x.base.index+1+sizeC c-c.threads+t
 ⟨{ x with word:=ld m a,pc:=37 },ldM m t a,0,false,[]⟩
def s37 (c:AB) (t:Nat) (x:AC) (m:Mm):SO:=⟨{ x with pc:=38 },stM m t (aHaz c t) 0,0,false,[]⟩
def s38 (c:AB) (t:Nat) (x:AC) (m:Mm):SO :=
 ⟨if overT x x.word then { x with res:=readR x.word,tri:=0,pc:=22 } else { x with pc:=29 },stM m t (aEpo c t) 0,0,false,[]⟩
def AO (k:Nat) (c:AB) (t:Nat) (x:AC) (m:Mm):SO :=
 match k with
 |1=>s1 c t x m|2=>s2 c t x m|3=>s3 c t x m|4=>s4 c t x m|5=>s5 c t x m|6=>s6 c t x m|7=>s7 c t x m|8=>s8 c t x m|9=>s9 c t x m|10=>s10 c t x m
 |11=>s11 c t x m|12=>s12 c t x m|13=>s13 c t x m|14=>s14 c t x m|15=>s15 c t x m|16=>s16 c t x m|17=>s17 c t x m|18=>s18 c t x m|19=>s19 c t x m|20=>s20 c t x m
 |21=>s21 c t x m|22=>s22 c t x m|23=>s23 c t x m|24=>s24 c t x m|25=>s25 c t x m|26=>s26 c t x m|27=>s27 c t x m|28=>s28 c t x m|29=>s29 c t x m|30=>s30 c t x m
 |31=>s31 c t x m|32=>s32 c t x m|33=>s33 c t x m|34=>s34 c t x m|35=>s35 c t x m|36=>s36 c t x m|37=>s37 c t x m|38=>s38 c t x m
 |_=>⟨x,m,0,false,[]⟩
def stepT (c:AB) (t:Nat) (x:AC) (m:Mm):SO:=AO x.pc.toNat c t x m
end Go.Proofs.YtccefppppedgkaaGreat
namespace Go.Proofs.YtccefppppedgkaaGreat
open Go.RowKit
section
attribute [local irreducible] AL AW RG Fin C Cd Cio AI AF AN
abbrev mD (n ln cn:Nat):Ob:=.box 135 [.sl 1 0 n,.sl 2 ln ln,.sl 3 cn cn,bo true]
abbrev mL (l:List HR) (k:Nat):Ob:=.row k 83 7 (l.map tAc)
abbrev mC (l:List Int) (k:Nat):Ob:=.row k 3 1 (l.map tI)
abbrev MO (m:Mm) (n:Nat):List Ob:=[mD n m.log.length m.cnt.length,mR 0 m.w,mL m.log m.log.length,mC m.cnt m.cnt.length]
structure MK (m:Mm) (n:Nat):Prop where
 wl:m.w.length=n
 n0:0<n
 nm:n≤1048576
 ll:m.log.length≤1048576
 cl:m.cnt.length≤64
 cr : ∀x∈m.cnt,0≤x∧x≤1048576
def padI (l:List Int) (q:Nat):List Int:=l++List.replicate (q-l.length) 0
theorem b5_ (l:List Int) (q:Nat) (h:l.length≤q):(padI l q).length=q:=by
 unfold padI;rw [fJ,iM];omega
theorem x2_ (l:List Int):padI l l.length=l:=by unfold padI;simp
theorem x3_ (l:List Int) (q:Nat) (h:l.length≤q):padI l q++[0]=padI l (q+1):=by
 unfold padI
 rw [show q+1-l.length=(q-l.length)+1 by omega,lK,fS]
theorem YT (l:List Int) (t:Nat):cntM l t=(padI l (max l.length (t+1))).set t ((padI l (max l.length (t+1))).getD t 0+1):=by
 have e:padI l (max l.length (t+1))=l++List.replicate (t+1-l.length) 0:=by
  unfold padI
  rw [show max l.length (t+1)-l.length=t+1-l.length by omega]
 rw [e];rfl
theorem AcD (l:List Int) (t:Nat):(cntM l t).length=max l.length (t+1):=by
 rw [YT,iJ,b5_ _ _ (Nat.le_max_left _ _)]
theorem AfE {l:List Int} {q:Nat} (h : ∀x∈l,0≤x∧x≤1048576) : ∀x∈padI l q,0≤x∧x≤1048576:=fun x hx=>by
 unfold padI at hx
 rcases gJ.1 hx with hx|hx
 ·exact h x hx
 ·rw [iS hx];decide
theorem AeA (m:Mm) (n:Nat) (K:MK m n) (t:Nat) (ht:t<64):Cio Tryz.prog 252 [.ptr 0 0,i64 t] (MO m n) (.tup []) (MO ⟨m.w,m.log,cntM m.cnt t⟩ n):=by
 have k1:=K.cl
 have e1:(m.cnt.map tI).length=m.cnt.length:=fH _
 have e2:=AcD m.cnt t
 have hG:cntM m.cnt t=(padI m.cnt (max m.cnt.length (t+1))).set t ((padI m.cnt (max m.cnt.length (t+1))).getD t 0+1):=YT _ _
 generalize cntM m.cnt t=G at *
 dsimp only [MO,mD,mL,mC]
 refine ZEN Tryz.func252 Tryz.ntmps252 ?_
 repeat' (first|refine El ?_|refine uS 6 (fun hb=>?_) (fun hb=>?_)|refine ZK2 (fun hc=>?_) (fun hc=>?_)|fail)
 all_goals try exact ZE5
 refine AW.loopP (fun (q:Nat)=>m.cnt.length≤q∧q≤max m.cnt.length (t+1)) (fun (q:Nat)=>(pu (pu (fun _=>.any) 0 (.ptr 0 0)) 1 (i64 t))) (fun (q:Nat)=>[.box 135 [.sl 1 0 n,.sl 2 m.log.length m.log.length,.sl 3 q q,bo true],.row 0 46 1 (m.w.map tU),.row m.log.length 83 7 (m.log.map tAc),.row q 3 1 ((padI m.cnt q).map tI)]) (fun (q:Nat)=>t+1-q) (m.cnt.length) ?_ ?_ ?_
 ·exact ⟨fN _,by omega⟩
 ·rw [x2_]
  exact Wk.cq 4
 ·rintro q ⟨h1,h2⟩
  have hpl:=b5_ m.cnt q h1
  have hpm:((padI m.cnt q).map tI).length=q:=by rw [fH,hpl]
  by_cases hq:q≤t
  ·repeat' (first|refine El ?_|refine uS 6 (fun hb=>?_) (fun hb=>?_)|refine ZK2 (fun hc=>?_) (fun hc=>?_)|fail)
   all_goals try exact ZE5
   refine ⟨q+1,⟨by omega,by omega⟩,by omega,?_⟩
   rw [←x3_ _ _ h1]
   exact Wk.cq 4
  ·obtain rfl:q=max m.cnt.length (t+1):=by omega
   have hpr : ∀y∈padI m.cnt (max m.cnt.length (t+1)),0≤y∧y≤1048576:=AfE K.cr
   generalize padI m.cnt (max m.cnt.length (t+1))=z at *
   obtain ⟨y,hy⟩ : ∃y,z[t]? = some y:=⟨_,ZgE (by omega)⟩
   have hyr:=hpr y (fI hy)
   rw [fK,hy,jB] at hG
   subst hG
   rw [iJ,hpl]
   repeat' (first|refine El ?_|refine uS 6 (fun hb=>?_) (fun hb=>?_)|refine ZK2 (fun hc=>?_) (fun hc=>?_)|fail)
   all_goals exact A9 Tryz.results252
theorem a4_ (n ln cn:Nat) (l:List Int) (lg:List HR) (ct:List Int) (hn:l.length=n) (h0:0<n):Cio Tryz.prog 74 [.ptr 0 0] [mD n ln cn,mR 0 l,mL lg ln,mC ct cn] (bo true) [mD n ln cn,mR 0 l,mL lg ln,mC ct cn]:=by
 refine Bt ?_
 repeat' (first|refine A0 ?_|refine uS 5 (fun hb=>?_) (fun hb=>?_)|refine ZK2 (fun hc=>?_) (fun hc=>?_)|fail)
 all_goals exact A4 Tryz.results74
theorem o2_ (m:Mm) (n:Nat) (K:MK m n) (t:Nat) (k ad w:Int) (f:FuncId) (fi cap:List AV) (x:Int) (ok:Bool) (hg:CV Tryz.prog (.fn (.func f) fi cap) [u64 (ld m ad)] (.tup [u64 x,bo ok]) []) (ha:0≤ad∧ad<n) (ht:t<64) :
  Cio Tryz.prog 222 [.ptr 0 0,.agg [i64 t,i64 k,i64 ad,u64 w,u64 0,u64 0,bo false],.fn (.func f) fi cap] (MO m n) (.tup [.agg [i64 t,i64 k,i64 ad,u64 w,u64 (ld m ad),u64 x,bo ok],i64 0])
   (MO ⟨m.w.set ad.toNat x,m.log++[⟨t,k,ad,w,ld m ad,x,ok⟩],cntM m.cnt t⟩ n):=by
 have k1:=K.wl
 have k2:=K.n0
 have k3:=K.nm
 have k4:=K.ll
 have e0:(m.w.map tU).length=m.w.length:=fH _
 have e1:(m.log.map tAc).length=m.log.length:=fH _
 have c1:=a4_ n m.log.length m.cnt.length m.w m.log m.cnt k1 k2
 have c2:=AeA ⟨m.w.set ad.toNat x,m.log,m.cnt⟩ n ⟨by rw [iJ];exact k1,k2,k3,k4,K.cl,K.cr⟩ t ht
 obtain ⟨y,hy⟩ : ∃y,m.w[ad.toNat]? = some y:=⟨_,ZgE (by omega)⟩
 have hld:ld m ad=y:=by unfold ld;rw [fK,hy];rfl
 rw [hld] at hg ⊢
 have e3:(m.log++[(⟨t,k,ad,w,y,x,ok⟩:HR)]).length=m.log.length+1:=by simp
 dsimp only [MO,mD,mL,mC] at *
 rw [e3]
 generalize cntM m.cnt t=ct at *
 refine ZEN Tryz.func222 Tryz.ntmps222 ?_
 repeat' (first|(refine ZAL ?_;first|(refine kL 2659 rfl ?_;first|refine A_store_rp rfl rfl 83 _ _ rfl IV (by decide) rfl rfl cG rfl rfl rfl (ZbT rfl) bH qN ?_)|(refine kL 1475 rfl ?_;first|refine A_store_rp rfl rfl 46 _ _ rfl inf46 (by decide) rfl rfl cG rfl rfl rfl (ZbT rfl) bH qN ?_)|(refine kL 131 rfl ?_;first|refine A_store_rp rfl rfl 4 _ _ rfl AjL (by decide) rfl rfl cG rfl rfl rfl (ZbT rfl) bH qN ?_)|refine uA ?_|refine uI [0,1,2,3] (c1) ?_|refine uV (hg) ?_|refine uI [0,1,2,3] (c2) ?_)|(refine ZRG ?_;first|(refine kR 12 rfl ?_;first|refine R_append rfl rfl _ _ 78 rfl e6_ IV rfl rfl rfl cY aA qB qB (by first|exact app_map aG|exact app_one (f:=tU) (x:=_) aG|exact app_one (f:=tAc) (x:=⟨_,_,_,_,_,_,_⟩) aG|exact qN) qN qS ?_|refine CR rfl rfl _ _ 78 rfl e6_ IV rfl rfl aA qB qB fF qh qN qS ?_)|(refine kR 1475 rfl ?_;first|refine R_store_rp rfl rfl 46 _ _ rfl inf46 (by decide) rfl rfl cG rfl rfl rfl (ZbT rfl) bH qN ?_)|(refine kR 2511 rfl ?_;first|refine R_lit rfl rfl 78 1 _ rfl e6_ IV (.cons rfl .nil) (els:=[[_,_,_,_,_,_,_]]) rfl fF rfl (fT rfl) (ZbT rfl) (ZbT rfl) qh qN ?_)|(refine kR 2499 rfl ?_;first|refine R_store_rp rfl rfl 78 _ _ rfl AnL (by decide) rfl rfl cG rfl rfl rfl (ZbT rfl) bH qN ?_)|refine uR ?_)|refine uC ?_|(first|refine AW.drawU (id:=3) mixed 0 qR ?_|refine AW.drawU (id:=5) mixed 0 qR ?_|refine AW.drawU (id:=7) mixed 0 qR ?_|refine AW.drawU (id:=10) mixed 2 qR ?_)|refine ZK2 (fun hc=>?_) (fun hc=>?_)|fail)
 all_goals try exact ZE5
 all_goals ((first|exact Fin.q Tryz.results222 (.cons (.agg rfl rfl AhC rfl IV (us:=[_,_,_,_,_,_,_]) rfl rfl) (.cons (.tmp rfl) .nil)) []|refine Fin.q Tryz.results222 (.cons (.agg rfl rfl AhC rfl IV (us:=[_,_,_,_,_,_,_]) rfl rfl) (.cons (.tmp rfl) .nil)) [] (hr:=(.tupL (.cons (.t ?_) (.cons (.t ?_) .nil))))|refine Fin.mkv (rs:=_) Tryz.results222 (.cons (.agg rfl rfl AhC rfl IV (us:=[_,_,_,_,_,_,_]) rfl rfl) (.cons (.tmp rfl) .nil)) [] (by decide) rfl ?_ ?_ ?_<;>repeat' (first|exact ZE1|refine ZE2 ?_ ?_|refine ZE3 ?_|exact ZE4|fail)))
theorem AjV (o:Int):Cd Tryz.prog 244 [u64 o] (.tup [u64 o,bo true]) []:=by
 refine ZEN Tryz.func244 Tryz.ntmps244 ?_
 repeat' (first|refine A0 ?_|refine ZK2 (fun hc=>?_) (fun hc=>?_)|fail)
 all_goals exact B1 Tryz.results244
theorem AgP (o x:Int):Cd Tryz.prog 245 [u64 o,.lp [u64 x]] (.tup [u64 x,bo true]) []:=by
 refine ZEN Tryz.func245 Tryz.ntmps245 ?_
 repeat' (first|refine A0 ?_|refine ZK2 (fun hc=>?_) (fun hc=>?_)|fail)
 all_goals exact B1 Tryz.results245
theorem AlZ (o v x:Int):Cd Tryz.prog 251 [u64 o,.lp [u64 v],.lp [u64 x]] (.tup [u64 (if o=v then x else o),bo (decide (o=v))]) []:=by
 by_cases h:o=v
 ·rw [fL h,fR h]
  refine ZEN Tryz.func251 Tryz.ntmps251 ?_
  repeat' (first|refine A0 ?_|refine ZK2 (fun hc=>?_) (fun hc=>?_)|fail)
  all_goals exact B1 Tryz.results251
 ·rw [fM h,fP h]
  refine ZEN Tryz.func251 Tryz.ntmps251 ?_
  repeat' (first|refine A0 ?_|refine ZK2 (fun hc=>?_) (fun hc=>?_)|fail)
  all_goals exact B1 Tryz.results251
theorem AoW (o z:Int):Cd Tryz.prog 223 [u64 o,.lp [u64 z]] (.tup [u64 (NB (o+z)),bo true]) []:=by
 refine ZEN Tryz.func223 Tryz.ntmps223 ?_
 repeat' (first|refine A0 ?_|refine ZK2 (fun hc=>?_) (fun hc=>?_)|fail)
 all_goals exact B1 Tryz.results223
theorem AgE (m:Mm) (a:Int):m.w.set a.toNat (ld m a)=m.w:=by
 refine iI fun i=>?_
 by_cases e:a.toNat=i
 ·by_cases h:i<m.w.length
  ·rw [e,iU h];unfold ld;rw [e,fK,ZgE h];rfl
  ·rw [gL (by rw [iJ];omega),gL (by omega)]
 ·rw [jG e]
theorem AkC (m:Mm) (n:Nat) (K:MK m n) (t:Nat) (ht:t<64) (a:Int) (ha:0≤a∧a<n):Cio Tryz.prog 212 [.ptr 0 0,i64 t,i64 a] (MO m n) (.tup [u64 (ld m a),i64 0]) (MO (ldM m t a) n):=by
 have c1:=o2_ m n K t 1 a 0 244 [] [] (ld m a) true ⟨_,_,[],[],rfl,Tryz.func244,by kernel_rfl,by kernel_rfl,fun _=>.nil,fun _=>.nil,AjV _⟩ ha ht
 rw [AgE] at c1
 have e:(⟨m.w,m.log++[⟨t,1,a,0,ld m a,ld m a,true⟩],cntM m.cnt t⟩:Mm)=ldM m t a:=rfl
 rw [e] at c1
 generalize ldM m t a=m' at *
 refine ZEN Tryz.func212 Tryz.ntmps212 ?_
 repeat' (first|refine Br ?_|refine ZK2 (fun hc=>?_) (fun hc=>?_)|fail)
 all_goals exact B1 Tryz.results212
theorem AeO (m:Mm) (n:Nat) (K:MK m n) (t:Nat) (ht:t<64) (a w:Int) (ha:0≤a∧a<n):Cio Tryz.prog 213 [.ptr 0 0,i64 t,i64 a,u64 w] (MO m n) (i64 0) (MO (stM m t a w) n):=by
 have c1:=o2_ m n K t 2 a 0 245 [] [.lp [u64 w]] w true ⟨_,_,[],[.lp [u64 w]],rfl,Tryz.func245,by kernel_rfl,by kernel_rfl,fun _=>.nil,fun _=>.cons (.lpL (.cons (.t _) .nil)) .nil,AgP _ _⟩ ha ht
 have e:(⟨m.w.set a.toNat w,m.log++[⟨t,2,a,0,ld m a,w,true⟩],cntM m.cnt t⟩:Mm)=stM m t a w:=rfl
 rw [e] at c1
 generalize stM m t a w=m' at *
 refine ZEN Tryz.func213 Tryz.ntmps213 ?_
 repeat' (first|refine Br ?_|refine ZK2 (fun hc=>?_) (fun hc=>?_)|fail)
 all_goals exact A4 Tryz.results213
theorem AkL (m:Mm) (n:Nat) (K:MK m n) (t:Nat) (ht:t<64) (a v w:Int) (ha:0≤a∧a<n):Cio Tryz.prog 221 [.ptr 0 0,i64 t,i64 a,u64 v,u64 w] (MO m n) (.tup [bo (decide (ld m a=v)),i64 0]) (MO (swM m t a v w) n):=by
 have c1:=o2_ m n K t 3 a v 251 [] [.lp [u64 v],.lp [u64 w]] (if ld m a=v then w else ld m a) (decide (ld m a=v)) ⟨_,_,[],[.lp [u64 v],.lp [u64 w]],rfl,Tryz.func251,by kernel_rfl,by kernel_rfl,fun _=>.nil,fun _=>.cons (.lpL (.cons (.t _) .nil)) (.cons (.lpL (.cons (.t _) .nil)) .nil),AlZ _ _ _⟩ ha ht
 have e:(⟨m.w.set a.toNat (if ld m a=v then w else ld m a),m.log++[⟨t,3,a,v,ld m a,if ld m a=v then w else ld m a,decide (ld m a=v)⟩],cntM m.cnt t⟩:Mm)=swM m t a v w:=by
  unfold swM
  by_cases h:ld m a=v
  ·rw [fL h,fL h,fR h]
  ·rw [fM h,fM h,fP h,AgE]
 rw [e] at c1
 generalize swM m t a v w=m' at *
 refine ZEN Tryz.func221 Tryz.ntmps221 ?_
 repeat' (first|refine Br ?_|refine ZK2 (fun hc=>?_) (fun hc=>?_)|fail)
 all_goals exact B1 Tryz.results221
theorem AqR (m:Mm) (n:Nat) (K:MK m n) (t:Nat) (ht:t<64) (a z:Int) (ha:0≤a∧a<n):Cio Tryz.prog 181 [.ptr 0 0,i64 t,i64 a,u64 z] (MO m n) (.tup [u64 (ld m a),i64 0]) (MO (adM m t a z) n):=by
 have c1:=o2_ m n K t 4 a 0 223 [] [.lp [u64 z]] (NB (ld m a+z)) true ⟨_,_,[],[.lp [u64 z]],rfl,Tryz.func223,by kernel_rfl,by kernel_rfl,fun _=>.nil,fun _=>.cons (.lpL (.cons (.t _) .nil)) .nil,AoW _ _⟩ ha ht
 have e:(⟨m.w.set a.toNat (NB (ld m a+z)),m.log++[⟨t,4,a,0,ld m a,NB (ld m a+z),true⟩],cntM m.cnt t⟩:Mm)=adM m t a z:=rfl
 rw [e] at c1
 generalize adM m t a z=m' at *
 refine ZEN Tryz.func181 Tryz.ntmps181 ?_
 repeat' (first|refine Br ?_|refine ZK2 (fun hc=>?_) (fun hc=>?_)|fail)
 all_goals exact B1 Tryz.results181
abbrev rB (c:AB) (x:AC) (t:Nat) (nt:Int) (wn:Bool) (op:List DOp):Ob:=.box 187
  [i64 x.pc,i64 x.seq,i64 x.req.kind,i64 x.req.arg,i64 x.req.value,bo x.req.dflt,.t (.lst (x.req.cases.map tCs)),bo x.slow,i64 x.round,i64 x.i,i64 x.j,i64 x.tri,i64 x.epoch,bo x.all_,i64 x.base.index,i64 x.base.tag,
   .t (.lst (x.buf.map tU)),.t (.lst (x.nxt.map tU)),u64 x.word,.t (.lst (x.args.map tU)),.t (.lst (x.found.map tOp)),.t (.lst (x.seen.map tU)),
   i64 x.pool.own.index,i64 x.pool.own.tag,.t (.lst (x.pool.free.map tSl)),.t (.lst (x.pool.old.map tOd)),i64 x.pool.spent,i64 x.res.seq,i64 x.res.cas,i64 x.res.code,i64 x.res.value,bo x.won,bo x.waits,bo x.scans,
   i64 c.kind,i64 c.threads,i64 c.chans,i64 c.cap,i64 c.nodes,i64 c.retire,i64 c.patience,i64 c.tags,i64 c.seqs,i64 c.gens,.t (.lst (c.start.map tI)),
   .ptr 1 0,i64 t,i64 nt,bo wn,.t (.lst (op.map tOp))]
abbrev RO (c:AB) (x:AC) (t:Nat) (nt:Int) (wn:Bool) (op:List DOp) (m:Mm) (n:Nat):List Ob :=
 [rB c x t nt wn op,.box 135 [.sl 2 0 n,.sl 3 m.log.length m.log.length,.sl 4 m.cnt.length m.cnt.length,bo true],mR 0 m.w,mL m.log m.log.length,mC m.cnt m.cnt.length]
theorem BW (c:AB) (x:AC) (t:Nat) (nt:Int) (wn:Bool) (op:List DOp) (m:Mm) (n:Nat) (K:MK m n) (ht:t<64) (a:Int) (ha:0≤a∧a<n) :
  Cio Tryz.prog 160 [.ptr 0 0,i64 a] (RO c x t nt wn op m n) (u64 (ld m a)) (RO c x t nt wn op (ldM m t a) n):=by
 have c1:=AkC m n K t ht a ha
 generalize ldM m t a=m' at *
 refine ZEN Tryz.func160 Tryz.ntmps160 ?_
 repeat' (first|refine Gx ?_|refine ZK2 (fun hc=>?_) (fun hc=>?_)|fail)
 all_goals first|(exfalso;omega)|((first|exact A5 Tryz.results160|refine A7 Tryz.results160 ?_|refine A8 Tryz.results160 ?_ ?_ ?_<;>repeat' (first|exact ZE1|refine ZE2 ?_ ?_|refine ZE3 ?_|exact ZE4|fail)))
theorem DF (c:AB) (x:AC) (t:Nat) (nt:Int) (wn:Bool) (op:List DOp) (m:Mm) (n:Nat) (K:MK m n) (ht:t<64) (a w:Int) (ha:0≤a∧a<n) :
  Cio Tryz.prog 161 [.ptr 0 0,i64 a,u64 w] (RO c x t nt wn op m n) (.tup []) (RO c x t nt wn op (stM m t a w) n):=by
 have c1:=AeO m n K t ht a w ha
 generalize stM m t a w=m' at *
 refine ZEN Tryz.func161 Tryz.ntmps161 ?_
 repeat' (first|refine uA ?_|(refine ZRG ?_;first|refine uR ?_|refine uJ [1,2,3,4] (c1) ?_)|refine uC ?_|refine AW.drawU (id:=0) mixed 2 qR ?_|refine ZK2 (fun hc=>?_) (fun hc=>?_)|fail)
 all_goals first|(exfalso;omega)|((first|exact Fin.q Tryz.results161 .nil []|refine Fin.q Tryz.results161 .nil [] (hr:=(.tupL .nil))|refine Fin.mkv (rs:=_) Tryz.results161 .nil [] (by decide) rfl ?_ ?_ ?_<;>repeat' (first|exact ZE1|refine ZE2 ?_ ?_|refine ZE3 ?_|exact ZE4|fail)))
theorem QB (c:AB) (x:AC) (t:Nat) (nt:Int) (wn:Bool) (op:List DOp) (m:Mm) (n:Nat) (K:MK m n) (ht:t<64) (a v w:Int) (ha:0≤a∧a<n) :
  Cio Tryz.prog 180 [.ptr 0 0,i64 a,u64 v,u64 w] (RO c x t nt wn op m n) (bo (decide (ld m a=v))) (RO c x t nt wn op (swM m t a v w) n):=by
 have c1:=AkL m n K t ht a v w ha
 generalize swM m t a v w=m' at *
 refine ZEN Tryz.func180 Tryz.ntmps180 ?_
 repeat' (first|refine Gx ?_|refine ZK2 (fun hc=>?_) (fun hc=>?_)|fail)
 all_goals first|(exfalso;omega)|((first|exact A5 Tryz.results180|refine A7 Tryz.results180 ?_|refine A8 Tryz.results180 ?_ ?_ ?_<;>repeat' (first|exact ZE1|refine ZE2 ?_ ?_|refine ZE3 ?_|exact ZE4|fail)))
structure PN where
 sh:Bool
 ov:Bool
 at_:Int
 v:Int
def got (on sh ov:Bool) (at_ v:Int) (n:Nat) (code val:Int):PN :=
 if CP on sh ov at_ n=true∨code=6∨code=11 then ⟨sh,ov,at_,v⟩ else if code=7 then ⟨sh,true,at_,v⟩ else if sh then ⟨sh,decide (at_+1=n),at_+1,v⟩
 else if 0<at_ then ⟨sh,ov,if at_+1>n then 0 else at_+1,v⟩ else if code=0 then ⟨sh,ov,1,val⟩ else ⟨true,ov,at_,v⟩
theorem AeU (on sh ov:Bool) (inn:Int) (outs:List Int) (at_ v:Int):(CP on sh ov at_ outs.length=true∧nx on sh ov inn outs at_ v = .no)∨(CP on sh ov at_ outs.length=false∧((∃h,nx on sh ov inn outs at_ v = .close h) ∨ ∃c,nx on sh ov inn outs at_ v = .one c)):=by
 cases h:CP on sh ov at_ outs.length
 ·refine .inr ⟨rfl,?_⟩
  unfold nx;rw [h]
  cases sh
  ·right
   by_cases h0:at_=0
   ·rw [fL h0];exact ⟨_,rfl⟩
   ·rw [fM h0];exact ⟨_,rfl⟩
  ·exact .inl ⟨_,rfl⟩
 ·exact .inl ⟨rfl,PV h⟩
theorem AmF {at_:Int} {n:Nat} (h0:0≤at_) (h1:at_≤n):(at_+1)%((n:Int)+1)=if at_+1>n then 0 else at_+1:=by
 by_cases h:at_=n
 ·subst h;rw [Int.emod_self,fL (by omega)]
 ·rw [Int.emod_eq_of_lt (by omega) (by omega),fM (by omega)]
theorem AuY (on sh ov:Bool) (inn at_ v:Int) (outs:List Int) (s c code val:Int) (hlen:outs.length≤17592186044415) (hat:sI at_) :
  Cd Tryz.prog 88 [.agg [bo on,bo sh,bo ov,i64 inn,.ln (outs.map tI),i64 at_,i64 v],.agg [i64 s,i64 c,i64 code,i64 val]]
   (.agg [bo on,bo (got on sh ov at_ v outs.length code val).sh,bo (got on sh ov at_ v outs.length code val).ov,i64 inn,.sl 0 0 outs.length,i64 (got on sh ov at_ v outs.length code val).at_,i64 (got on sh ov at_ v outs.length code val).v])
   [.row 0 3 1 (outs.map tI)]:=by
 have h1:(outs.map tI).length=outs.length:=fH _
 have cN:=i7_ on sh ov inn at_ v outs hlen hat
 unfold sI at hat
 rcases AeU on sh ov inn outs at_ v with ⟨hn,hx⟩|⟨hn,⟨h,hx⟩|⟨h,hx⟩⟩
 all_goals (rw [hx] at cN;simp only [nxA,nxL] at cN)
 ·have e:got on sh ov at_ v outs.length code val=⟨sh,ov,at_,v⟩:=by unfold got;rw [fL (.inl hn)]
  rw [e]
  refine ZEN Tryz.func88 Tryz.ntmps88 ?_
  repeat' (first|(refine ZAL ?_;first|(refine kL 2634 rfl ?_;first|(refine uK (AR outs ?zq0) ?_;(case zq0=>omega)))|refine uA ?_|refine uK (cN) ?_)|refine uC ?_|refine ZK2 (fun hc=>?_) (fun hc=>?_)|fail)
  all_goals first|(exfalso;omega)|((first|exact Fin.q Tryz.results88 (.cons (.agg rfl rfl ud145 rfl inf145 (us:=[_,_,_,_,_,_,_]) rfl rfl) .nil) [4]|refine Fin.q Tryz.results88 (.cons (.agg rfl rfl ud145 rfl inf145 (us:=[_,_,_,_,_,_,_]) rfl rfl) .nil) [4] (hr:=(.t ?_))|refine En Tryz.results88 ?_ ?_ ?_<;>repeat' (first|exact ZE1|refine ZE2 ?_ ?_|refine ZE3 ?_|exact ZE4|fail)))
  all_goals simp
 all_goals
  have hf:=a7_ hn
  obtain ⟨rfl,rfl,f1,f2,f3⟩:=hf
  have ht:=AmF f1 f2
  refine ZEN Tryz.func88 Tryz.ntmps88 ?_
  repeat' (first|(refine ZAL ?_;first|(refine kL 2634 rfl ?_;first|(refine uK (AR outs ?zq0) ?_;(case zq0=>omega)))|refine uA ?_|refine uK (cN) ?_)|refine uC ?_|refine ZK2 (fun hc=>?_) (fun hc=>?_)|fail)
  all_goals first|(exfalso;omega)|((first|exact Fin.q Tryz.results88 (.cons (.agg rfl rfl ud145 rfl inf145 (us:=[_,_,_,_,_,_,_]) rfl rfl) .nil) [4]|refine Fin.q Tryz.results88 (.cons (.agg rfl rfl ud145 rfl inf145 (us:=[_,_,_,_,_,_,_]) rfl rfl) .nil) [4] (hr:=(.t ?_))|refine En Tryz.results88 ?_ ?_ ?_<;>repeat' (first|exact ZE1|refine ZE2 ?_ ?_|refine ZE3 ?_|exact ZE4|fail)))
  all_goals first|rfl|(simp only [got,hn];simp [*];done)|(simp only [got,hn];simp [*];omega)|skip
end
end Go.Proofs.YtccefppppedgkaaGreat
namespace Go.Proofs.YtccefppppedgkaaGreat
instance (inn:Int) (outs:List Int) (j:Nat):Decidable (RX inn outs j):=by unfold RX;infer_instance
instance (inn:Int) (outs:List Int):Decidable (GP inn outs):=by unfold GP;infer_instance
def UT:FE:=⟨false,false,false,0,[],0,0⟩
def XS (inn:Int) (outs:List Int):Option FE:=if GP inn outs then some ⟨true,false,false,inn,outs,0,0⟩ else none
def MD (p:FE):Option AT :=
 match nx p.on p.shut p.over p.inn p.outs p.at_ p.value with
 |.no=>none
 |.close h=>some ⟨4,h,0,false,[]⟩
 |.one k=>some ⟨3,0,0,false,[k]⟩
def gotP (p:FE) (r:Rst):FE :=
 let g:=got p.on p.shut p.over p.at_ p.value p.outs.length r.code r.value
 ⟨p.on,g.sh,g.ov,p.inn,p.outs,g.at_,g.v⟩
structure Mc where
 m:Mm
 tasks:List AC
 pumps:List FE
 notes:List JB
 turns:List DA
 steps:List Int
 most:List Int
 time:Int
 deriving DecidableEq,Inhabited
def tkM (s:Mc) (t:Nat):AC:=s.tasks.getD t AK
def puM (s:Mc) (t:Nat):FE:=s.pumps.getD t UT
def OA:Rst:=⟨0,0,0,0⟩
def HU (c:AB) (x:AC) (q:AT):Option AC :=
 if x.pc=0∧BR q=true∧x.seq<c.seqs then some { AK with pc:=1,seq:=x.seq+1,req:=q,round:=1,pool:=x.pool } else none
def FQ (c:AB) (s:Mc) (t:Nat) (q:AT):Option Mc :=
 match HU c (tkM s t) q with
 |none=>none
 |some y=>some { s with tasks:=s.tasks.set t y,steps:=s.steps.set t 0,notes:=s.notes++[⟨1,t,y.seq,s.time,y.req,OA⟩]}
def AP (s:Mc):Mc:={ s with time:=s.time+1 }
def KR (s:Mc) (t:Nat) (q:AT):Bool:=decide ((tkM s t).pc=0) && !(puM s t).on&&BR q
def callM (c:AB) (s:Mc) (t:Nat) (q:AT):Mc :=
 if KR s t q then
  match FQ c (AP s) t q with
  |some s'=>s'
  |none=>{ AP s with notes:=s.notes++[⟨1,t,0,s.time+1,q,OA⟩,⟨3,t,0,s.time+1,q,⟨0,0,7,0⟩⟩]}
 else s
def AfK (c:AB) (s:Mc) (t:Nat):Bool:=decide (c.kind=3)&&decide ((tkM s t).pc=0) && !(puM s t).on
def pumpM (c:AB) (s:Mc) (t:Nat) (inn:Int) (outs:List Int):Mc :=
 match XS inn outs with
 |none=>s
 |some p=>if AfK c s t then { AP s with pumps:=s.pumps.set t p } else s
def goesM (c:AB) (s:Mc) (t:Nat):Mc :=
 match MD (puM s t) with
 |none=>s
 | some q =>
  if (tkM s t).pc=0 then
   match FQ c s t q with
   |some s'=>s'
   |none=>{ s with pumps:=s.pumps.set t (gotP (puM s t) ⟨0,0,7,0⟩)}
  else s
def AU (s:Mc) (t:Nat):Mc :=
 if (tkM s t).waits then s else { s with steps:=s.steps.set t (s.steps.getD t 0+1),most:=s.most.set t (max (s.most.getD t 0) (s.steps.getD t 0+1))}
def wonM (s:Mc) (t:Nat) (o:SO):Mc:=if o.won then { s with turns:=s.turns++[⟨s.time,t,o.ops⟩]} else s
def noteM (s:Mc) (t:Nat) (o:SO):Mc:=if o.note=0 then s else { s with notes:=s.notes++[⟨o.note,t,o.x.seq,s.time,o.x.req,o.x.res⟩]}
def FG (s:Mc) (t:Nat) (o:SO):Mc:=if o.note=3∧(puM s t).on=true then { s with pumps:=s.pumps.set t (gotP (puM s t) o.x.res)} else s
def KO (c:AB) (s:Mc) (t:Nat):Mc :=
 let o:=stepT c t (tkM s t) s.m
 FG (noteM (wonM { s with m:=o.m,tasks:=s.tasks.set t o.x } t o) t o) t o
def pickM (c:AB) (s:Mc) (t:Nat):Mc :=
 let s1:=goesM c (AP s) t
 if (tkM s1 t).pc=0 then s1 else KO c (AU s1 t) t
def doM (c:AB) (s:Mc) (e:EG):Mc :=
 if 0≤e.thread∧e.thread<c.threads then
  if e.kind=1 then pickM c s e.thread.toNat
  else if e.kind=2 then callM c s e.thread.toNat e.req
  else if e.kind=3 then pumpM c s e.thread.toNat e.inn e.outs
  else s
 else s
def thrN (c:AB):Nat:=c.threads.toNat
def newM (c:AB):Mc :=
 ⟨⟨setupL c,[],[]⟩,(List.range (thrN c)).map (fun (t:Nat)=>{ AK with pool:=⟨⟨0,0⟩,poolL c t,[],0⟩}),List.replicate (thrN c) UT,[],[],List.replicate (thrN c) 0,List.replicate (thrN c) 0,0⟩
def playM (c:AB) (l:List EG):Mc:=l.foldl (doM c) (newM c)
def exC:AB:=⟨3,2,2,1,5,2,1,999,99,3,[0,1]⟩
def exR (d h v:Int):AT:=⟨3,0,0,false,[⟨d,h,v⟩]⟩
def FY (t:Int):EG:=⟨1,t,⟨0,0,0,false,[]⟩,0,[]⟩
def HE (t:Int) (q:AT):EG:=⟨2,t,q,0,[]⟩
def exL:List EG:=HE 0 (exR 2 8 0)::(List.replicate 100 (FY 0)++(HE 1 (exR 1 8 7)::(List.range 200).map fun (i:Nat)=>FY (1-(i:Int)%2)))
def HI (s:Mc) (t:Nat):Bool:=decide ((tkM s t).pc=0)&&(MD (puM s t)).isNone
def AuV (s:Mc):Bool:=HI s 0&&HI s 1&&decide (s.notes.length=5)&&decide ((s.notes.getD 1 default).kind=2)&&decide ((tkM s 0).res.value=7)&&decide ((tkM s 1).res.code=0)&&decide (s.turns.length=2)
end Go.Proofs.YtccefppppedgkaaGreat
namespace Go.Proofs.YtccefppppedgkaaGreat
theorem TR (c:AB) (x:AC) : ∃p,againT c x={ x with pc:=p }∧(p=16∧x.slow=false∨p=19∧x.slow=true∨p=3):=by
 unfold againT
 refine ⟨_,rfl,?_⟩
 split
 ·rename_i h;exact .inl ⟨rfl,h.1⟩
 ·split
  ·rename_i h;exact .inr (.inl ⟨rfl,h.1⟩)
  ·exact .inr (.inr rfl)
theorem JD (c:AB) (x:AC) : ∃p,failT c x={ x with round:=x.round+1,found:=[],pc:=p }∧(p=16∧x.slow=false∨p=19∧x.slow=true∨p=3):=by
 obtain ⟨p,e,h⟩:=TR c { x with round:=x.round+1,found:=[]}
 exact ⟨p,e,h⟩
theorem HP (c:AB) (x:AC) : ∃p sc r,takeT c x={ x with pool:=takeP c.tags x.pool,pc:=p,scans:=sc,res:=r } ∧
    ((takeP c.tags x.pool).own.tag≠0∧sc=false∧r=x.res∧(p=16∧x.slow=false∨p=19∧x.slow=true∨p=3) ∨
     (takeP c.tags x.pool).own.tag=0∧x.pool.old≠[]∧x.scans=false∧sc=true∧r=x.res∧p=24 ∨
     (takeP c.tags x.pool).own.tag=0∧sc=false∧p=28∧r=⟨x.seq,0,whyP (takeP c.tags x.pool),0⟩∧(x.pool.old=[]∨x.scans=true)):=by
  unfold takeT
  by_cases h:(takeP c.tags x.pool).own.tag=0
  · dsimp only
    rw [fM fD]
    by_cases h2:(takeP c.tags x.pool).old≠[]∧x.scans=false
    · rw [fL h2]
      exact ⟨_,_,_,rfl,.inr (.inl ⟨h,h2.1,h2.2,rfl,rfl,rfl⟩)⟩
    · rw [fM h2]
      refine ⟨_,_,_,rfl,.inr (.inr ⟨h,rfl,rfl,rfl,?_⟩)⟩
      by_cases h3:x.pool.old=[]
      · exact .inl h3
      · right
        cases hs:x.scans
        · exact absurd ⟨h3,hs⟩ h2
        · rfl
  · dsimp only
    rw [fL h]
    obtain ⟨p,e,hp⟩:=TR c { x with pool:=takeP c.tags x.pool,scans:=false }
    exact ⟨p,_,_,e,.inl ⟨h,rfl,rfl,hp⟩⟩
theorem JI (c:AB) (x:AC) : ∃i tr p,nextSeqT c x={ x with i:=i,tri:=tr,pc:=p }∧(x.i+1=c.threads∧i=0∧tr=0∧p=11∨x.i+1≠c.threads∧i=x.i+1∧tr=x.tri∧p=8):=by
 unfold nextSeqT
 by_cases h:x.i+1=c.threads
 ·rw [fL h];exact ⟨_,_,_,rfl,.inl ⟨h,rfl,rfl,rfl⟩⟩
 ·rw [fM h];exact ⟨_,_,_,rfl,.inr ⟨h,rfl,rfl,rfl⟩⟩
theorem FL (c:AB) (t:Nat) (x:AC) : ∃i p f n,nextMailT c t x={ x with i:=i,tri:=0,pc:=p,found:=f,nxt:=n } ∧
  (x.i+1<c.threads∧i=x.i+1∧p=11∧f=x.found∧n=x.nxt ∨ ¬x.i+1<c.threads∧i=0∧p=13∧f=GW t x∧n=allO c x.buf (GW t x)):=by
 unfold nextMailT
 by_cases h:x.i+1<c.threads
 ·rw [fL h];exact ⟨_,_,_,_,rfl,.inl ⟨h,rfl,rfl,rfl,rfl⟩⟩
 ·rw [fM h];exact ⟨_,_,_,_,rfl,.inr ⟨h,rfl,rfl,rfl,rfl⟩⟩
theorem EF (c:AB) (x:AC):(x.scans=true∧scannedT c x=takeT c x)∨(x.scans=false∧scannedT c x={ x with pc:=28 }):=by
 unfold scannedT
 cases h:x.scans
 ·right;exact ⟨rfl,rfl⟩
 ·left;exact ⟨rfl,rfl⟩
theorem JX (c:AB) (x:AC) (m:Mm):(x.waits=true∧ownedT c x m=⟨finishT x,m,3,false,[]⟩)∨(x.waits=false∧needsP x.pool c.retire=true∧ownedT c x m=⟨{ x with pc:=24 },m,0,false,[]⟩)∨(x.waits=false∧needsP x.pool c.retire=false∧ownedT c x m=⟨{ x with pc:=28 },m,0,false,[]⟩):=by
 unfold ownedT
 cases h:x.waits
 ·cases h2:needsP x.pool c.retire
  ·right;right;exact ⟨rfl,rfl,rfl⟩
  ·right;left;exact ⟨rfl,rfl,rfl⟩
 ·left;exact ⟨rfl,rfl⟩
def begun (x:AC) (q:AT):AC:={ AK with pc:=1,seq:=x.seq+1,req:=q,round:=1,pool:=x.pool }
theorem OR {c:AB} {x:AC} {q:AT} {y:AC} (h:HU c x q=some y):x.pc=0∧BR q=true∧x.seq<c.seqs∧y=begun x q:=by
 unfold HU at h
 split at h
 ·rename_i h0;cases h;exact ⟨h0.1,h0.2.1,h0.2.2,rfl⟩
 ·cases h
theorem CI {c:AB} {s s':Mc} {t:Nat} {q:AT} (h:FQ c s t q=some s'):(tkM s t).pc=0∧BR q=true∧(tkM s t).seq<c.seqs ∧
  s'={ s with tasks:=s.tasks.set t (begun (tkM s t) q),steps:=s.steps.set t 0,notes:=s.notes++[⟨1,t,(tkM s t).seq+1,s.time,q,OA⟩]}:=by
 unfold FQ at h
 split at h
 ·cases h
 ·rename_i y hy
  obtain ⟨h1,h2,h3,rfl⟩:=OR hy
  cases h
  exact ⟨h1,h2,h3,rfl⟩
theorem WF {c:AB} {K:Mm→List AC→List DA→Prop}
  (hB : ∀m l u (t:Nat) q,K m l u→t<thrN c→(l.getD t AK).pc=0→BR q=true→(l.getD t AK).seq<c.seqs→K m (l.set t (begun (l.getD t AK) q)) u)
  (hS : ∀m l u (t:Nat) (z:Int),K m l u→t<thrN c→(l.getD t AK).pc≠0→K (stepT c t (l.getD t AK) m).m (l.set t (stepT c t (l.getD t AK) m).x) (if (stepT c t (l.getD t AK) m).won then u++[⟨z,t,(stepT c t (l.getD t AK) m).ops⟩] else u))
  {s:Mc} (h:K s.m s.tasks s.turns) (e:EG):K (doM c s e).m (doM c s e).tasks (doM c s e).turns:=by
 unfold doM
 split
 ·rename_i ht
  have htl:e.thread.toNat<thrN c:=by unfold thrN;omega
  generalize e.thread.toNat=t at *
  have hgo:K (goesM c (AP s) t).m (goesM c (AP s) t).tasks (goesM c (AP s) t).turns:=by
   unfold goesM
   split
   ·exact h
   ·split
    ·split
     ·rename_i s' hs'
      obtain ⟨h1,h2,h3,rfl⟩:=CI hs'
      exact hB _ _ _ t _ h htl h1 h2 h3
     ·exact h
    ·exact h
  split
  ·unfold pickM
   dsimp only
   generalize goesM c (AP s) t=s1 at *
   split
   ·exact hgo
   ·rename_i hpc
    have hc:(AU s1 t).m=s1.m∧(AU s1 t).tasks=s1.tasks∧(AU s1 t).turns=s1.turns:=by unfold AU;split<;>exact ⟨rfl,rfl,rfl⟩
    have htk:tkM (AU s1 t) t=s1.tasks.getD t AK:=by unfold tkM;rw [hc.2.1]
    have hst:=hS s1.m s1.tasks s1.turns t (AU s1 t).time hgo htl hpc
    unfold KO
    dsimp only
    rw [htk,hc.1,hc.2.1]
    generalize hO:stepT c t (s1.tasks.getD t AK) s1.m=o at *
    have hb : ∀q:Mc,(FG q t o).m=q.m∧(FG q t o).tasks=q.tasks∧(FG q t o).turns=q.turns:=fun q=>by unfold FG;split<;>exact ⟨rfl,rfl,rfl⟩
    have hn : ∀q:Mc,(noteM q t o).m=q.m∧(noteM q t o).tasks=q.tasks∧(noteM q t o).turns=q.turns:=fun q=>by unfold noteM;split<;>exact ⟨rfl,rfl,rfl⟩
    rw [(hb _).1,(hb _).2.1,(hb _).2.2,(hn _).1,(hn _).2.1,(hn _).2.2]
    unfold wonM
    cases hw:o.won
    ·rw [hw] at hst
     simp only [iC,jC] at hst ⊢
     rw [hc.2.2];exact hst
    ·rw [hw] at hst
     simp only [jL] at hst ⊢
     rw [hc.2.2];exact hst
  ·split
   ·unfold callM
    split
    ·split
     ·rename_i s' hs'
      obtain ⟨h1,h2,h3,rfl⟩:=CI hs'
      exact hB _ _ _ t _ h htl h1 h2 h3
     ·exact h
    ·exact h
   ·split
    ·unfold pumpM
     split
     ·exact h
     ·split
      ·exact h
      ·exact h
    ·exact h
 ·exact h
theorem AfH {c:AB} {J:Mc→Prop} (h0:J (newM c)) (hS : ∀s e,J s→J (doM c s e)) (l:List EG):J (playM c l):=by
 unfold playM
 generalize newM c=s at h0
 induction l generalizing s with
 |nil=>exact h0
 |cons e l ih=>exact ih _ (hS s e h0)
end Go.Proofs.YtccefppppedgkaaGreat
namespace Go.Proofs.YtccefppppedgkaaGreat
structure Okc (c:AB):Prop where
 ok:AY c=true
 big:totL c≤1048576
structure W0 (x:AC):Prop where
 won:x.won=false
 wai:x.waits=false
 sca:x.scans=false
def At (c:AB) (x:AC):Nat→Prop
 |0=>W0 x
 |1=>W0 x
 |2=>W0 x
 |3=>W0 x∧x.pool.own.tag≠0
 |4=>W0 x∧x.pool.own.tag≠0
 |5=>W0 x∧x.pool.own.tag≠0
 |6=>W0 x∧x.pool.own.tag≠0
 |7=>(W0 x∧x.pool.own.tag≠0)∧0≤x.i∧x.i<sizeC c∧(x.buf.length:Int)=x.i
 |8=>(W0 x∧x.pool.own.tag≠0)∧(0≤x.i∧x.i<c.threads)∧(x.buf.length:Int)=sizeC c
 |9=>(W0 x∧x.pool.own.tag≠0)∧(0≤x.i∧x.i<c.threads)∧(x.buf.length:Int)=sizeC c∧0≤x.j∧x.j<5∧(x.args.length:Int)=x.j
 |10=>(W0 x∧x.pool.own.tag≠0)∧(0≤x.i∧x.i<c.threads)∧(x.buf.length:Int)=sizeC c∧x.args.length=5
 |11=>(W0 x∧x.pool.own.tag≠0)∧(0≤x.i∧x.i<c.threads)∧(x.buf.length:Int)=sizeC c
 |12=>(W0 x∧x.pool.own.tag≠0)∧(0≤x.i∧x.i<c.threads)∧(x.buf.length:Int)=sizeC c
 |13=>(W0 x∧x.pool.own.tag≠0)∧(x.buf.length:Int)=sizeC c∧(x.nxt.length:Int)=sizeC c∧x.i=0
 |14=>(W0 x∧x.pool.own.tag≠0)∧(x.buf.length:Int)=sizeC c∧(x.nxt.length:Int)=sizeC c∧0≤x.i∧x.i<sizeC c
 |15=>(W0 x∧x.pool.own.tag≠0)∧(x.buf.length:Int)=sizeC c∧(x.nxt.length:Int)=sizeC c
 |16=>W0 x∧x.pool.own.tag≠0
 |17=>(W0 x∧x.pool.own.tag≠0)∧0≤x.j∧x.j<5∧x.args.length=5
 |18=>W0 x∧x.pool.own.tag≠0
 |19=>W0 x∧x.pool.own.tag≠0
 |20=>x.waits=false∧x.scans=false
 |21=>x.won=true∧x.waits=false∧x.scans=false
 |22=>x.scans=false∧(x.waits=true→x.won=false)
 |23=>x.scans=false∧(x.waits=true→x.won=false)
 |24=>x.waits=false∧(x.scans=true→x.won=false)
 |25=>(x.waits=false∧(x.scans=true→x.won=false))∧0≤x.i∧x.i<c.threads
 |26=>(x.waits=false∧(x.scans=true→x.won=false))∧x.i=0∧x.seen.length=0
 |27=>(x.waits=false∧(x.scans=true→x.won=false))∧(0≤x.i∧x.i<c.threads)∧(x.seen.length:Int)=x.i
 |28=>x.waits=false∧x.scans=false
 |k=>k≤38∧x.won=false∧x.waits=true∧x.scans=false
structure AQ (c:AB) (x:AC):Prop where
 pc0:0≤x.pc
 seq:0≤x.seq∧x.seq≤c.seqs
 fit:x.pc≠0→BR x.req=true
 at_:At c x x.pc.toNat
theorem g3_ {q:AT} {p:Int} (h:BR q=true):(HW q p).length=5:=by
 unfold HW HD
 rw [fL h]
 simp [CQ]
theorem f9_ (c:AB) (l:List Int) (t n:Int) (q:AT):(FD c l t n q).length=l.length:=by
 unfold FD
 split
 ·rename_i hm
  have hq:BR q=true∧(0≤n∧n≤1048575):=by
   unfold AqT at hm
   simp only [fX,gE] at hm
   exact ⟨hm.2,hm.1.2⟩
  split
  ·split
   ·rename_i h
    have h1:=y3_ (OY (t:=t) (NO h).1 hq.1 hq.2)
    have e1:((putH c (applyH c (readH c l) t n q)).length:Int)=sizeC c:=by
     have:=h1.1
     unfold GV at this
     simp only [fX,gE] at this
     exact this.1.2
    have e2:(l.length:Int)=sizeC c:=by
     unfold GV at h
     simp only [fX,gE] at h
     exact h.1.2
    omega
   ·rfl
  ·split
   ·rename_i h
    have h1:=y4_ (PA (t:=t) (lifo:=decide (c.kind=2)) (NP h).1 hq.1 hq.2)
    have e1:((putX c (appX (decide (c.kind=2)) (readX c l) t n q)).length:Int)=sizeC c:=by
     have:=h1.1
     unfold FK at this
     simp only [fX,gE] at this
     exact this.1.2
    have e2:(l.length:Int)=sizeC c:=by
     unfold FK at h
     simp only [fX,gE] at h
     exact h.1.2
    omega
   ·rfl
 ·rfl
theorem YG (c:AB) (ops:List DOp) : ∀l:List Int,(allO c l ops).length=l.length:=by
 induction ops with
 |nil=>intro l;rfl
 |cons o ops ih=>intro l;unfold allO at *;rw [kE,ih,f9_]
variable {c:AB}
theorem Okc.facts (h:Okc c):1≤c.threads∧c.threads≤64∧2≤sizeC c∧sizeC c≤393∧c.threads≤sizeC c∧1≤c.retire∧0≤c.seqs∧c.seqs≤1048575∧1≤c.tags∧c.tags≤4294967295:=by
 have hs:=AJ h.ok
 have hb:=JZ c
 have h0:=h.ok
 unfold AY at h0
 simp only [fX,CB] at h0
 have hz:1+c.threads≤sizeC c:=by
  unfold sizeC stateC
  rw [fL h.ok,fL h.ok]
  split
  ·rename_i hk
   obtain ⟨a,b,d,e⟩:=hs.h3 hk
   have:=jW (show 0≤c.chans by omega) (show 0≤1+c.cap by omega)
   omega
  ·rename_i hk
   have:=hs.h1 hk
   omega
 omega
variable {t:Nat} {x:AC}
theorem AE {m:Mm} {k:Nat} (h:x.pc=(k:Int)):stepT c t x m=AO k c t x m:=by
 unfold stepT
 rw [h,fW]
theorem AQ.le (h:AQ c x):x.pc≤38:=by
 have:=h.at_
 by_cases hk:38<x.pc.toNat
 ·obtain ⟨k,hk2⟩ : ∃k,x.pc.toNat=k+39:=⟨x.pc.toNat-39,by omega⟩
  rw [hk2] at this
  have:=this.1
  omega
 ·omega
theorem BE (h:AQ c x) : ∃k:Nat,x.pc=(k:Int)∧k≤38∧At c x k:=⟨x.pc.toNat,by have:=h.pc0;omega,by have:=h.le;omega,h.at_⟩
theorem AS {k:Nat} (hk:k≤38):k=0∨k=1∨k=2∨k=3∨k=4∨k=5∨k=6∨k=7∨k=8∨k=9∨k=10∨k=11∨k=12∨k=13∨k=14∨k=15∨k=16∨k=17∨k=18∨k=19∨k=20∨k=21∨k=22∨k=23∨k=24∨k=25∨k=26∨k=27∨k=28∨k=29∨k=30∨k=31∨k=32∨k=33∨k=34∨k=35∨k=36∨k=37∨k=38:=by omega
theorem UJ {x y:AC} {p:Int} (hp:p=16∧x.slow=false∨p=19∧x.slow=true∨p=3) (e:y.pc=p) (h:W0 y∧y.pool.own.tag≠0) (hs:0≤y.seq∧y.seq≤c.seqs) (hf:BR y.req=true):AQ c y:=by
 rcases hp with ⟨rfl,_⟩|⟨rfl,_⟩|rfl
 all_goals exact ⟨by rw [e];decide,hs,fun _=>hf,by rw [e];exact h⟩
theorem RM (h:AQ c x) (hf:BR x.req=true) (ha:W0 x∧x.pool.own.tag≠0):AQ c (failT c x):=by
 obtain ⟨p,e,hp⟩:=JD c x
 rw [e]
 exact UJ (x:=x) hp rfl ⟨⟨ha.1.won,ha.1.wai,ha.1.sca⟩,ha.2⟩ h.seq hf
theorem ZW (hs:0≤x.seq∧x.seq≤c.seqs) (hf:BR x.req=true) (h1:x.won=false) (h2:x.waits=false):AQ c (takeT c x):=by
 obtain ⟨p,sc,r,e,hp⟩:=HP c x
 rw [e]
 rcases hp with ⟨g1,rfl,rfl,hp⟩|⟨g1,g2,g3,rfl,rfl,rfl⟩|⟨g1,rfl,rfl,rfl,g2⟩
 ·exact UJ (x:=x) hp rfl ⟨⟨h1,h2,rfl⟩,g1⟩ hs hf
 ·exact ⟨aD,hs,fun _=>hf,h2,fun _=>h1⟩
 ·exact ⟨aD,hs,fun _=>hf,h2,rfl⟩
theorem GJ (hs:0≤x.seq∧x.seq≤c.seqs) (hf:BR x.req=true) (ht:1≤c.threads) (h:W0 x∧x.pool.own.tag≠0) (hi:0≤x.i∧x.i<c.threads) (hb:(x.buf.length:Int)=sizeC c):AQ c (nextSeqT c x):=by
 obtain ⟨i,tr,p,e,hp⟩:=JI c x
 rw [e]
 have hw : ∀y:AC,y.won=x.won→y.waits=x.waits→y.scans=x.scans→W0 y:=fun y a b d=>⟨a.trans h.1.won,b.trans h.1.wai,d.trans h.1.sca⟩
 rcases hp with ⟨g,rfl,rfl,rfl⟩|⟨g,rfl,rfl,rfl⟩
 ·exact ⟨aD,hs,fun _=>hf,⟨hw _ rfl rfl rfl,h.2⟩,⟨aD,by dsimp only;omega⟩,hb⟩
 ·exact ⟨aD,hs,fun _=>hf,⟨hw _ rfl rfl rfl,h.2⟩,⟨by dsimp only;omega,by dsimp only;omega⟩,hb⟩
theorem LW (hs:0≤x.seq∧x.seq≤c.seqs) (hf:BR x.req=true) (h:W0 x∧x.pool.own.tag≠0) (hi:0≤x.i∧x.i<c.threads) (hb:(x.buf.length:Int)=sizeC c):AQ c (nextMailT c t x):=by
 obtain ⟨i,p,fo,n,e,hp⟩:=FL c t x
 rw [e]
 have hw : ∀y:AC,y.won=x.won→y.waits=x.waits→y.scans=x.scans→W0 y:=fun y a b d=>⟨a.trans h.1.won,b.trans h.1.wai,d.trans h.1.sca⟩
 rcases hp with ⟨g,rfl,rfl,rfl,rfl⟩|⟨g,rfl,rfl,rfl,rfl⟩
 ·exact ⟨aD,hs,fun _=>hf,⟨hw _ rfl rfl rfl,h.2⟩,⟨by dsimp only;omega,g⟩,hb⟩
 ·exact ⟨aD,hs,fun _=>hf,⟨hw _ rfl rfl rfl,h.2⟩,hb,by dsimp only;rw [YG];exact hb,rfl⟩
theorem KW (hs:0≤x.seq∧x.seq≤c.seqs):AQ c (finishT x):=⟨gG 0,hs,fun e=>absurd rfl e,rfl,rfl,rfl⟩
theorem UK {m:Mm} (hs:0≤x.seq∧x.seq≤c.seqs) (hf:BR x.req=true) (h:x.scans=false):AQ c (ownedT c x m).x:=by
 rcases JX c x m with ⟨h1,e⟩|⟨h1,h2,e⟩|⟨h1,h2,e⟩
 ·rw [e];exact KW hs
 ·rw [e];exact ⟨aD,hs,fun _=>hf,h1,fun e=>by rw [show ({ x with pc:=24 }:AC).scans=x.scans from rfl,h] at e;cases e⟩
 ·rw [e];exact ⟨aD,hs,fun _=>hf,h1,h⟩
theorem JH (hs:0≤x.seq∧x.seq≤c.seqs) (hf:BR x.req=true) (h1:x.waits=false) (h2:x.scans=true→x.won=false):AQ c (scannedT c x):=by
 rcases EF c x with ⟨g,e⟩|⟨g,e⟩
 ·rw [e];exact ZW hs hf (h2 g) h1
 ·rw [e];exact ⟨aD,hs,fun _=>hf,h1,g⟩
theorem VE {m:Mm} (f:Okc c) (h:AQ c x) (h0:x.pc≠0):AQ c (stepT c t x m).x:=by
 have hz:=f.facts
 obtain ⟨k,hk,hk2,ha⟩:=BE h
 have hf:=h.fit h0
 have hs:=h.seq
 rw [AE hk]
 have hz:=AS hk2
 repeat' (rcases hz with rfl|hz)
 ·exact absurd hk h0
 ·show AQ c (s1 c t x m).x
  unfold s1
  exact ⟨aD,hs,fun _=>hf,⟨ha.won,ha.wai,ha.sca⟩⟩
 ·exact ZW (x:=x) hs hf ha.won ha.wai
 ·show AQ c (s3 c t x m).x
  unfold s3
  exact ⟨aD,hs,fun _=>hf,⟨⟨ha.1.won,ha.1.wai,ha.1.sca⟩,ha.2⟩⟩
 ·show AQ c (s4 c t x m).x
  unfold s4
  exact ⟨aD,hs,fun _=>hf,⟨⟨ha.1.won,ha.1.wai,ha.1.sca⟩,ha.2⟩⟩
 ·show AQ c (s5 c t x m).x
  unfold s5
  dsimp only
  split
  ·exact ⟨aD,hs,fun _=>hf,⟨⟨ha.1.won,ha.1.wai,ha.1.sca⟩,ha.2⟩⟩
  ·exact RM h hf ha
 ·show AQ c (s6 c t x m).x
  unfold s6
  dsimp only
  split
  ·exact ⟨aD,hs,fun _=>hf,⟨⟨⟨ha.1.won,ha.1.wai,ha.1.sca⟩,ha.2⟩,aD,by dsimp only;omega,rfl⟩⟩
  ·exact RM h hf ha
 ·show AQ c (s7 c t x m).x
  unfold s7 BA
  dsimp only
  obtain ⟨⟨hw,ho⟩,h1,h2,h3⟩:=ha
  have hl : ∀w:Int,((x.buf++[w]).length:Int)=x.i+1:=fun w=>by rw [fJ,gQ];omega
  split
  ·exact ⟨h.pc0,hs,fun _=>hf,by show At c _ x.pc.toNat;rw [hk];exact ⟨⟨⟨hw.won,hw.wai,hw.sca⟩,ho⟩,by dsimp only;omega,by assumption,hl _⟩⟩
  ·split
   ·exact ⟨aD,hs,fun _=>hf,hw.wai,hw.sca⟩
   ·exact ⟨aD,hs,fun _=>hf,⟨⟨hw.won,hw.wai,hw.sca⟩,ho⟩,⟨aD,by dsimp only;omega⟩,by dsimp only;rw [hl];omega⟩
 ·show AQ c (s8 c t x m).x
  unfold s8
  dsimp only
  obtain ⟨⟨hw,ho⟩,h1,h2⟩:=ha
  split
  ·exact GJ (x:={ x with word:=_ }) hs hf hz.1 ⟨⟨hw.won,hw.wai,hw.sca⟩,ho⟩ h1 h2
  ·exact ⟨aD,hs,fun _=>hf,⟨⟨hw.won,hw.wai,hw.sca⟩,ho⟩,h1,h2,aD,aD,rfl⟩
 ·show AQ c (s9 c t x m).x
  unfold s9
  dsimp only
  obtain ⟨⟨hw,ho⟩,h1,h2,h3,h4,h5⟩:=ha
  have hl : ∀w:Int,((x.args++[w]).length:Int)=x.j+1:=fun w=>by rw [fJ,gQ];omega
  split
  ·rename_i hj
   refine ⟨aD,hs,fun _=>hf,⟨⟨hw.won,hw.wai,hw.sca⟩,ho⟩,h1,h2,?_⟩
   dsimp only
   have:=hl (ld m (EP c x.i+x.j))
   omega
  ·exact ⟨h.pc0,hs,fun _=>hf,by show At c _ x.pc.toNat;rw [hk];exact ⟨⟨⟨hw.won,hw.wai,hw.sca⟩,ho⟩,h1,h2,by dsimp only;omega,by dsimp only;omega,hl _⟩⟩
 ·obtain ⟨⟨hw,ho⟩,h1,h2,h3⟩:=ha
  show AQ c (CE c x _)
  unfold CE
  split
  ·split
   ·exact GJ (x:={ x with found:=_ }) hs hf hz.1 ⟨⟨hw.won,hw.wai,hw.sca⟩,ho⟩ h1 h2
   ·exact GJ hs hf hz.1 ⟨hw,ho⟩ h1 h2
  ·exact GJ hs hf hz.1 ⟨hw,ho⟩ h1 h2
 ·show AQ c (s11 c t x m).x
  unfold s11
  dsimp only
  obtain ⟨⟨hw,ho⟩,h1,h2⟩:=ha
  split
  ·exact ⟨aD,hs,fun _=>hf,⟨⟨hw.won,hw.wai,hw.sca⟩,ho⟩,h1,h2⟩
  ·exact LW (x:={ x with word:=_ }) hs hf ⟨⟨hw.won,hw.wai,hw.sca⟩,ho⟩ h1 h2
 ·show AQ c (s12 c t x m).x
  unfold s12
  dsimp only
  obtain ⟨⟨hw,ho⟩,h1,h2⟩:=ha
  split
  ·exact LW (x:={ x with tri:=_ }) hs hf ⟨⟨hw.won,hw.wai,hw.sca⟩,ho⟩ h1 h2
  ·exact ⟨aD,hs,fun _=>hf,⟨⟨hw.won,hw.wai,hw.sca⟩,ho⟩,h1,h2⟩
 ·show AQ c (s13 c t x m).x
  unfold s13
  obtain ⟨⟨hw,ho⟩,h1,h2,h3⟩:=ha
  exact ⟨aD,hs,fun _=>hf,⟨⟨hw.won,hw.wai,hw.sca⟩,ho⟩,h1,h2,by show 0≤x.i;omega,by show x.i<_;omega⟩
 ·show AQ c (s14 c t x m).x
  unfold s14
  dsimp only
  obtain ⟨⟨hw,ho⟩,h1,h2,h3,h4⟩:=ha
  split
  ·exact ⟨aD,hs,fun _=>hf,⟨⟨hw.won,hw.wai,hw.sca⟩,ho⟩,h1,h2⟩
  ·exact ⟨h.pc0,hs,fun _=>hf,by show At c _ x.pc.toNat;rw [hk];exact ⟨⟨⟨hw.won,hw.wai,hw.sca⟩,ho⟩,h1,h2,by dsimp only;omega,by dsimp only;omega⟩⟩
 ·show AQ c (s15 c t x m).x
  unfold s15
  split
  ·exact ⟨aD,hs,fun _=>hf,ha.1.1.wai,ha.1.1.sca⟩
  ·exact RM h hf ha.1
 ·show AQ c (s16 c t x m).x
  unfold s16
  exact ⟨aD,hs,fun _=>hf,⟨⟨ha.1.won,ha.1.wai,ha.1.sca⟩,ha.2⟩,aD,aD,g3_ hf⟩
 ·show AQ c (s17 c t x m).x
  unfold s17
  dsimp only
  obtain ⟨⟨hw,ho⟩,h1,h2,h3⟩:=ha
  split
  ·exact ⟨aD,hs,fun _=>hf,⟨hw.won,hw.wai,hw.sca⟩,ho⟩
  ·exact ⟨h.pc0,hs,fun _=>hf,by show At c _ x.pc.toNat;rw [hk];exact ⟨⟨⟨hw.won,hw.wai,hw.sca⟩,ho⟩,by dsimp only;omega,by dsimp only;omega,h3⟩⟩
 ·show AQ c (s18 c t x m).x
  unfold s18
  exact ⟨aD,hs,fun _=>hf,⟨⟨ha.1.won,ha.1.wai,ha.1.sca⟩,ha.2⟩⟩
 ·show AQ c (s19 c t x m).x
  unfold s19
  exact ⟨aD,hs,fun _=>hf,ha.1.wai,ha.1.sca⟩
 ·show AQ c (s20 c t x m).x
  unfold s20
  dsimp only
  cases hw:x.won
  ·exact ⟨aD,hs,fun _=>hf,ha.2,fun _=>rfl⟩
  ·exact ⟨aD,hs,fun _=>hf,rfl,ha.1,ha.2⟩
 ·show AQ c (s21 c t x m).x
  unfold s21
  exact ⟨aD,hs,fun _=>hf,ha.2.2,fun e=>by rw [show _=x.waits from rfl,ha.2.1] at e;cases e⟩
 ·show AQ c (s22 c t x m).x
  unfold s22
  dsimp only
  split
  ·exact ⟨aD,hs,fun _=>hf,ha.1,ha.2⟩
  ·exact UK (x:={ x with word:=_ }) hs hf ha.1
 ·show AQ c (s23 c t x m).x
  unfold s23
  dsimp only
  split
  ·exact UK (x:={ x with tri:=_,pc:=22 }) hs hf ha.1
  ·exact ⟨aD,hs,fun _=>hf,ha.1,ha.2⟩
 ·show AQ c (s24 c t x m).x
  unfold s24
  dsimp only
  split
  ·exact ⟨aD,hs,fun _=>hf,⟨ha.1,ha.2⟩,aD,by dsimp only;omega⟩
  ·exact JH (x:={ x with word:=_,pool:=_,i:=0,all_:=true,pc:=25 }) hs hf ha.1 ha.2
 ·show AQ c (s25 c t x m).x
  unfold s25
  dsimp only
  obtain ⟨h1,h2,h3⟩:=ha
  split
  ·exact ⟨h.pc0,hs,fun _=>hf,by show At c _ x.pc.toNat;rw [hk];exact ⟨h1,by dsimp only;omega,by assumption⟩⟩
  ·split
   ·exact ⟨aD,hs,fun _=>hf,h1,rfl,rfl⟩
   ·exact ⟨aD,hs,fun _=>hf,h1,⟨aD,by dsimp only;omega⟩,rfl⟩
 ·show AQ c (s26 c t x m).x
  unfold s26
  dsimp only
  obtain ⟨h1,h2,h3⟩:=ha
  have key : ∀p:BV,AQ c (if needsP p c.retire=true then { x with pc:=27,pool:=p } else scannedT c { x with pc:=27,pool:=p }):=fun p=>by
   split
   ·exact ⟨aD,hs,fun _=>hf,h1,⟨by dsimp only;omega,by dsimp only;omega⟩,by dsimp only;omega⟩
   ·exact JH (x:={ x with pc:=27,pool:=p }) hs hf h1.1 h1.2
  exact key _
 ·show AQ c (s27 c t x m).x
  unfold s27
  dsimp only
  obtain ⟨h1,h2,h3⟩:=ha
  have hl : ∀w:Int,((x.seen++[w]).length:Int)=x.i+1:=fun w=>by rw [fJ,gQ];omega
  split
  ·exact JH (x:={ x with seen:=_,i:=_,pool:=_ }) hs hf h1.1 h1.2
  ·exact ⟨h.pc0,hs,fun _=>hf,by show At c _ x.pc.toNat;rw [hk];exact ⟨h1,⟨by dsimp only;omega,by dsimp only;omega⟩,hl _⟩⟩
 ·show AQ c (s28 c t x m).x
  unfold s28
  split
  ·exact ⟨aD,hs,fun _=>hf,aD,rfl,rfl,rfl⟩
  ·exact KW hs
 ·show AQ c (s29 c t x m).x
  unfold s29
  dsimp only
  split
  ·exact KW (x:={ x with res:=_ }) hs
  ·exact ⟨aD,hs,fun _=>hf,aD,ha.2⟩
 ·show AQ c (s30 c t x m).x
  unfold s30
  exact ⟨aD,hs,fun _=>hf,aD,ha.2⟩
 ·show AQ c (s31 c t x m).x
  unfold s31
  exact ⟨aD,hs,fun _=>hf,aD,ha.2⟩
 ·show AQ c (s32 c t x m).x
  unfold s32
  exact ⟨aD,hs,fun _=>hf,aD,ha.2⟩
 ·show AQ c (s33 c t x m).x
  unfold s33
  exact ⟨aD,hs,fun _=>hf,aD,ha.2⟩
 ·show AQ c (s34 c t x m).x
  unfold s34
  dsimp only
  split
  all_goals exact ⟨aD,hs,fun _=>hf,aD,ha.2⟩
 ·show AQ c (s35 c t x m).x
  unfold s35
  dsimp only
  split
  all_goals exact ⟨aD,hs,fun _=>hf,aD,ha.2⟩
 ·show AQ c (s36 c t x m).x
  unfold s36
  exact ⟨aD,hs,fun _=>hf,aD,ha.2⟩
 ·show AQ c (s37 c t x m).x
  unfold s37
  exact ⟨aD,hs,fun _=>hf,aD,ha.2⟩
 ·show AQ c (s38 c t x m).x
  unfold s38
  dsimp only
  split
  ·exact ⟨aD,hs,fun _=>hf,ha.2.2.2,fun _=>ha.2.1⟩
  ·exact ⟨aD,hs,fun _=>hf,aD,ha.2⟩
end Go.Proofs.YtccefppppedgkaaGreat
namespace Go.Proofs.YtccefppppedgkaaGreat
theorem GU {m m':Mm} {a b v:Int} (h:m'.w=m.w.set a.toNat v) (ha:0≤a) (hl:a<(m.w.length:Int)) (hb:0≤b):ld m' b=if a=b then v else ld m b:=by
 unfold ld
 rw [h,fK,gP,fK]
 by_cases e:a=b
 ·subst e;rw [fL rfl,fL rfl,fL (by omega)];rfl
 ·rw [fM e,fM (by omega)]
theorem WN {m m':Mm} (h:m'.w=m.w) (b:Int):ld m' b=ld m b:=by unfold ld;rw [h]
theorem Okc.tot {c:AB} (h:Okc c):totL c=3+c.threads*9+nodesL c*(1+sizeC c)∧1≤nodesL c:=by
 have h1:=XX h.ok
 have h2:=EJ h.ok
 exact ⟨h1.2.1,h2.1⟩
theorem EX {c:AB} (h:Okc c) {i k:Int} (h0:0≤i) (h1:i<nodesL c) (k0:0≤k) (k1:k≤sizeC c):3+c.threads*9≤aNode c i+k∧aNode c i+k<totL c:=by
 obtain ⟨e,_⟩:=h.tot
 have f:=h.facts
 have a1:0≤i*(1+sizeC c):=jW h0 (by omega)
 have a2:(i+1)*(1+sizeC c)≤nodesL c*(1+sizeC c):=iD (by omega) (by omega)
 rw [mV] at a2
 unfold aNode
 omega
theorem o7_ {c:AB} (h:Okc c) {i j k q:Int} (h0:0≤i) (h1:0≤j) (hne:i≠j) (k0:0≤k) (k1:k≤sizeC c) (q0:0≤q) (q1:q≤sizeC c):aNode c i+k≠aNode c j+q:=by
 have f:=h.facts
 unfold aNode
 rcases Int.lt_or_lt_of_ne hne with hl|hl
 ·have:=iD (show i+1≤j by omega) (show 0≤1+sizeC c by omega)
  rw [mV] at this
  omega
 ·have:=iD (show j+1≤i by omega) (show 0≤1+sizeC c by omega)
  rw [mV] at this
  omega
inductive WA (c:AB) (t:Nat) (x:AC) (m:Mm):Int→Int→Prop
 |root (hp:x.pc=15) (hr:ld m 0=wdF x.base):WA c t x m 0 (wdF x.pool.own)
 |glob (hp:x.pc=26) (hr:ld m 1=x.word):WA c t x m 1 (x.word+1)
 |phase (hp:x.pc=16) (v:Int):WA c t x m 2 v
 |epo (hp:x.pc=2∨x.pc=31):WA c t x m (aEpo c t) (GE x.epoch)
 |epo0 (hp:x.pc=28∨x.pc=38):WA c t x m (aEpo c t) 0
 |haz (hp:x.pc=4∨x.pc=33):WA c t x m (aHaz c t) (wdF x.base)
 |haz0 (hp:x.pc=20∨x.pc=37):WA c t x m (aHaz c t) 0
 |arg (hp:x.pc=17) (v:Int):WA c t x m (EP c t+x.j) v
 |seq (hp:x.pc=18):WA c t x m (aSeq c t) x.seq
 |mail (hp:x.pc=12) (v:Int):WA c t x m (aMail c x.i) v
 |mine (hp:x.pc=23) (v:Int):WA c t x m (aMail c t) v
 |tag (hp:x.pc=13):WA c t x m (aNode c x.pool.own.index) x.pool.own.tag
 |recd (hp:x.pc=14):WA c t x m (aNode c x.pool.own.index+1+x.i) (x.nxt.getD x.i.toNat 0)
theorem PJ (m:Mm) (t:Nat) (a want x:Int):(swM m t a want x).w=if ld m a=want then m.w.set a.toNat x else m.w:=by unfold swM;split<;>rfl
theorem EZ (c:AB) (x:AC) (m:Mm):(ownedT c x m).m=m:=by unfold ownedT;split;rfl;split<;>rfl
theorem XU {c:AB} {t:Nat} {x:AC} {m:Mm} (h:AQ c x):(stepT c t x m).m.w=m.w ∨ ∃a v,WA c t x m a v∧(stepT c t x m).m.w=m.w.set a.toNat v:=by
 obtain ⟨k,hk,hk2,ha⟩:=BE h
 rw [AE hk]
 have hz:=AS hk2
 repeat' (rcases hz with rfl|hz)
 ·exact .inl rfl
 ·exact .inl rfl
 ·exact .inr ⟨_,_,.epo (.inl hk),rfl⟩
 ·exact .inl rfl
 ·exact .inr ⟨_,_,.haz (.inl hk),rfl⟩
 ·exact .inl rfl
 ·exact .inl rfl
 ·exact .inl rfl
 ·exact .inl rfl
 ·exact .inl rfl
 ·exact .inl rfl
 ·exact .inl rfl
 ·have e:(AO 12 c t x m).m.w=(swM m t (aMail c x.i) x.word (doneL c x.buf x.i)).w:=rfl
  rw [e,PJ]
  split
  ·exact .inr ⟨_,_,.mail hk _,rfl⟩
  ·exact .inl rfl
 ·exact .inr ⟨_,_,.tag hk,rfl⟩
 ·exact .inr ⟨_,_,.recd hk,rfl⟩
 ·simp only [AO]
  unfold s15
  split
  ·rename_i e
   refine .inr ⟨_,_,.root hk e,?_⟩
   show (swM _ _ _ _ _).w=_
   rw [PJ,fL e]
  ·rename_i e
   left
   show (swM _ _ _ _ _).w=_
   rw [PJ,fM e]
 ·exact .inr ⟨_,_,.phase hk _,rfl⟩
 ·exact .inr ⟨_,_,.arg hk _,rfl⟩
 ·exact .inr ⟨_,_,.seq hk,rfl⟩
 ·exact .inl rfl
 ·exact .inr ⟨_,_,.haz0 (.inl hk),rfl⟩
 ·exact .inl rfl
 ·simp only [AO]
  unfold s22
  dsimp only
  split
  ·exact .inl rfl
  ·left;rw [EZ];rfl
 ·simp only [AO]
  unfold s23
  dsimp only
  split
  ·rw [EZ,PJ]
   split
   ·refine .inr ⟨_,_,.mine hk _,rfl⟩
   ·exact .inl rfl
  ·left
   show (swM _ _ _ _ _).w=_
   rw [PJ,fM (fun e=>by simp_all)]
 ·exact .inl rfl
 ·exact .inl rfl
 ·have e:(AO 26 c t x m).m.w=(swM m t 1 x.word (x.word+1)).w:=rfl
  rw [e,PJ]
  split
  ·rename_i e
   exact .inr ⟨_,_,.glob hk e,rfl⟩
  ·exact .inl rfl
 ·exact .inl rfl
 ·simp only [AO]
  unfold s28
  dsimp only
  split
  ·exact .inr ⟨_,_,.epo0 (.inl hk),rfl⟩
  ·exact .inr ⟨_,_,.epo0 (.inl hk),rfl⟩
 ·simp only [AO]
  unfold s29
  dsimp only
  split
  ·exact .inl rfl
  ·exact .inl rfl
 ·exact .inl rfl
 ·exact .inr ⟨_,_,.epo (.inr hk),rfl⟩
 ·exact .inl rfl
 ·exact .inr ⟨_,_,.haz (.inr hk),rfl⟩
 ·exact .inl rfl
 ·exact .inl rfl
 ·exact .inl rfl
 ·exact .inr ⟨_,_,.haz0 (.inr hk),rfl⟩
 ·exact .inr ⟨_,_,.epo0 (.inr hk),rfl⟩
inductive AA (c:AB) (t:Nat) (x:AC):Int→Prop
 |root (hp:x.pc=15):AA c t x 0
 |glob (hp:x.pc=26):AA c t x 1
 |phase (hp:x.pc=16):AA c t x 2
 |epo (hp:x.pc=2∨x.pc=31∨x.pc=28∨x.pc=38):AA c t x (aEpo c t)
 |haz (hp:x.pc=4∨x.pc=33∨x.pc=20∨x.pc=37):AA c t x (aHaz c t)
 |arg (hp:x.pc=17):AA c t x (EP c t+x.j)
 |seq (hp:x.pc=18):AA c t x (aSeq c t)
 |mail (hp:x.pc=12):AA c t x (aMail c x.i)
 |mine (hp:x.pc=23):AA c t x (aMail c t)
 |tag (hp:x.pc=13):AA c t x (aNode c x.pool.own.index)
 |recd (hp:x.pc=14):AA c t x (aNode c x.pool.own.index+1+x.i)
theorem QE (m:Mm) (t:Nat) (a want v:Int) : ∃e:HR,(swM m t a want v).log=m.log++[e]∧e.thread=t∧e.kind=3∧e.addr=a∧e.want=want∧(e.ok=true↔ld m a=want)∧(ld m a=want→e.now=v):=by
 unfold swM
 split
 ·rename_i h;exact ⟨_,rfl,rfl,rfl,rfl,rfl,⟨fun _=>h,fun _=>rfl⟩,fun _=>rfl⟩
 ·rename_i h;exact ⟨_,rfl,rfl,rfl,rfl,rfl,⟨fun e=>(by cases e),fun e=>absurd e h⟩,fun e=>absurd e h⟩
theorem GC {c:AB} {t:Nat} {x:AC} {m:Mm} (h:AQ c x) (h0:x.pc≠0) : ∃e:HR,(stepT c t x m).m.log=m.log++[e]∧e.thread=t∧(e.kind=1∨AA c t x e.addr∧e.kind≠1) ∧
  (x.pc=15→e.kind=3∧e.addr=0∧e.want=wdF x.base∧(e.ok=true↔ld m 0=wdF x.base)∧(ld m 0=wdF x.base→e.now=wdF x.pool.own)):=by
 obtain ⟨k,hk,hk2,ha⟩:=BE h
 rw [AE hk]
 have hz:=AS hk2
 repeat' (rcases hz with rfl|hz)
 ·exact absurd hk h0
 ·exact ⟨_,rfl,rfl,.inl rfl,fun e=>by omega⟩
 ·exact ⟨_,rfl,rfl,.inr ⟨.epo (.inl hk),(by decide:(2:Int)≠1)⟩,fun e=>by omega⟩
 ·exact ⟨_,rfl,rfl,.inl rfl,fun e=>by omega⟩
 ·exact ⟨_,rfl,rfl,.inr ⟨.haz (.inl hk),(by decide:(2:Int)≠1)⟩,fun e=>by omega⟩
 ·exact ⟨_,rfl,rfl,.inl rfl,fun e=>by omega⟩
 ·exact ⟨_,rfl,rfl,.inl rfl,fun e=>by omega⟩
 ·exact ⟨_,rfl,rfl,.inl rfl,fun e=>by omega⟩
 ·exact ⟨_,rfl,rfl,.inl rfl,fun e=>by omega⟩
 ·exact ⟨_,rfl,rfl,.inl rfl,fun e=>by omega⟩
 ·exact ⟨_,rfl,rfl,.inl rfl,fun e=>by omega⟩
 ·exact ⟨_,rfl,rfl,.inl rfl,fun e=>by omega⟩
 ·show ∃e,(swM _ _ _ _ _).log=_∧_
  obtain ⟨e,e1,e2,e3,e4, -⟩:=QE m t (aMail c x.i) x.word (doneL c x.buf x.i)
  exact ⟨e,e1,e2,.inr ⟨by rw [e4];exact .mail hk,by rw [e3];decide⟩,fun e=>by omega⟩
 ·exact ⟨_,rfl,rfl,.inr ⟨.tag hk,(by decide:(2:Int)≠1)⟩,fun e=>by omega⟩
 ·exact ⟨_,rfl,rfl,.inr ⟨.recd hk,(by decide:(2:Int)≠1)⟩,fun e=>by omega⟩
 ·obtain ⟨e,e1,e2,e3,e4,e5⟩:=QE m t 0 (wdF x.base) (wdF x.pool.own)
  refine ⟨e,?_,e2,.inr ⟨by rw [e4];exact .root hk,by rw [e3];decide⟩,fun _=>⟨e3,e4,e5⟩⟩
  simp only [AO]
  unfold s15
  split
  ·exact e1
  ·exact e1
 ·exact ⟨_,rfl,rfl,.inr ⟨.phase hk,(by decide:(4:Int)≠1)⟩,fun e=>by omega⟩
 ·exact ⟨_,rfl,rfl,.inr ⟨.arg hk,(by decide:(2:Int)≠1)⟩,fun e=>by omega⟩
 ·exact ⟨_,rfl,rfl,.inr ⟨.seq hk,(by decide:(2:Int)≠1)⟩,fun e=>by omega⟩
 ·exact ⟨_,rfl,rfl,.inl rfl,fun e=>by omega⟩
 ·exact ⟨_,rfl,rfl,.inr ⟨.haz (.inr (.inr (.inl hk))),(by decide:(2:Int)≠1)⟩,fun e=>by omega⟩
 ·exact ⟨_,rfl,rfl,.inl rfl,fun e=>by omega⟩
 ·simp only [AO]
  unfold s22
  dsimp only
  split
  ·exact ⟨_,rfl,rfl,.inl rfl,fun e=>by omega⟩
  ·rw [EZ];exact ⟨_,rfl,rfl,.inl rfl,fun e=>by omega⟩
 ·obtain ⟨e,e1,e2,e3,e4, -⟩:=QE m t (aMail c t) x.word (wordR x.res)
  refine ⟨e,?_,e2,.inr ⟨by rw [e4];exact .mine hk,by rw [e3];decide⟩,fun e=>by omega⟩
  simp only [AO]
  unfold s23
  dsimp only
  split
  ·rw [EZ];exact e1
  ·exact e1
 ·exact ⟨_,rfl,rfl,.inl rfl,fun e=>by omega⟩
 ·exact ⟨_,rfl,rfl,.inl rfl,fun e=>by omega⟩
 ·show ∃e,(swM _ _ _ _ _).log=_∧_
  obtain ⟨e,e1,e2,e3,e4, -⟩:=QE m t 1 x.word (x.word+1)
  exact ⟨e,e1,e2,.inr ⟨by rw [e4];exact .glob hk,by rw [e3];decide⟩,fun e=>by omega⟩
 ·exact ⟨_,rfl,rfl,.inl rfl,fun e=>by omega⟩
 ·simp only [AO]
  unfold s28
  split
  ·exact ⟨_,rfl,rfl,.inr ⟨.epo (.inr (.inr (.inl hk))),(by decide:(2:Int)≠1)⟩,fun e=>by omega⟩
  ·exact ⟨_,rfl,rfl,.inr ⟨.epo (.inr (.inr (.inl hk))),(by decide:(2:Int)≠1)⟩,fun e=>by omega⟩
 ·simp only [AO]
  unfold s29
  dsimp only
  split
  ·exact ⟨_,rfl,rfl,.inl rfl,fun e=>by omega⟩
  ·exact ⟨_,rfl,rfl,.inl rfl,fun e=>by omega⟩
 ·exact ⟨_,rfl,rfl,.inl rfl,fun e=>by omega⟩
 ·exact ⟨_,rfl,rfl,.inr ⟨.epo (.inr (.inl hk)),(by decide:(2:Int)≠1)⟩,fun e=>by omega⟩
 ·exact ⟨_,rfl,rfl,.inl rfl,fun e=>by omega⟩
 ·exact ⟨_,rfl,rfl,.inr ⟨.haz (.inr (.inl hk)),(by decide:(2:Int)≠1)⟩,fun e=>by omega⟩
 ·exact ⟨_,rfl,rfl,.inl rfl,fun e=>by omega⟩
 ·exact ⟨_,rfl,rfl,.inl rfl,fun e=>by omega⟩
 ·exact ⟨_,rfl,rfl,.inl rfl,fun e=>by omega⟩
 ·exact ⟨_,rfl,rfl,.inr ⟨.haz (.inr (.inr (.inr hk))),(by decide:(2:Int)≠1)⟩,fun e=>by omega⟩
 ·exact ⟨_,rfl,rfl,.inr ⟨.epo (.inr (.inr (.inr hk))),(by decide:(2:Int)≠1)⟩,fun e=>by omega⟩
end Go.Proofs.YtccefppppedgkaaGreat
namespace Go.Proofs.YtccefppppedgkaaGreat
def ER (a b:List (Int × Int)):Prop:=(∀x∈a,x∈b)∧((b.map (·.1)).Nodup→(a.map (·.1)).Nodup)
theorem ER.refl (a:List (Int × Int)):ER a a:=⟨fun _ h=>h,fun h=>h⟩
theorem ER.of_eq {a b:List (Int × Int)} (h:a=b):ER a b:=h ▸ .refl a
theorem ER.of_perm {a b:List (Int × Int)} (h:a.Perm b):ER a b:=⟨fun _ hx=>h.mem_iff.1 hx,fun hn=>(h.map _).nodup_iff.2 hn⟩
theorem ER.of_sub {a b:List (Int × Int)} (h:a.Sublist b):ER a b:=⟨fun _ hx=>h.subset hx,fun hn=>hn.sublist (h.map _)⟩
theorem ER.trans {a b d:List (Int × Int)} (h:ER a b) (k:ER b d):ER a d:=⟨fun x hx=>k.1 x (h.1 x hx),fun hn=>h.2 (k.2 hn)⟩
def DN (x:AC):Bool:=x.won&&(decide (x.pc=20)||decide (x.pc=21))
def DY (p:BV):List (Int × Int):=(if p.own.tag=0 then [] else [(p.own.index,p.own.tag-1)])++(p.free.map (fun s=>(s.index,s.tag))++p.old.map (fun o=>(o.ref.index,o.ref.tag)))
def plc (x:AC):List (Int × Int):=DY x.pool++(if DN x then [(x.base.index,x.base.tag)] else [])
theorem ID {x:AC} (h:x.won=false):DN x=false:=by unfold DN;rw [h];rfl
theorem WK {x:AC} (h1:x.pc≠20) (h2:x.pc≠21):DN x=false:=by unfold DN;simp [h1,h2]
theorem NV {x:AC} (h:DN x=false):plc x=DY x.pool:=by unfold plc;rw [h];simp
theorem LF (last i:Int) : ∀(l:List CN) (sp:Int),((takeL last i 0 sp l).t=0∧(takeL last i 0 sp l).F=[]) ∨
  ∃s r,(s::r).Sublist l∧KX s.index s.tag last=true∧(takeL last i 0 sp l).i=s.index∧(takeL last i 0 sp l).t=s.tag+1∧(takeL last i 0 sp l).F=r
 | [],sp=>.inl ⟨rfl,rfl⟩
 | s::l,sp=>by
  unfold takeL
  rw [fM (by simp)]
  cases h:KX s.index s.tag last
  ·rw [fM (by simp)]
   rcases LF last i l (IntKind.i64.wrap (sp+1)) with h1|⟨s',r,h1,h2⟩
   ·exact .inl h1
   ·exact .inr ⟨s',r,h1.cons _,h2⟩
  ·rw [fL rfl]
   refine .inr ⟨s,l,.refl _,h,?_,?_,rfl⟩
   ·unfold nxI;rw [fL h]
   ·unfold nxT;rw [fL h]
theorem VJ {last:Int} {p:BV} (h:p.own.tag≠0):takeP last p=p:=by
 unfold takeP
 rw [OL h]
theorem VI (last:Int) (p:BV):ER (DY (takeP last p)) (DY p):=by
 by_cases h:p.own.tag=0
 ·have hz:=LF last p.own.index p.free p.spent
  have e:takeP last p=⟨⟨(takeL last p.own.index 0 p.spent p.free).i,(takeL last p.own.index 0 p.spent p.free).t⟩,(takeL last p.own.index 0 p.spent p.free).F,p.old,(takeL last p.own.index 0 p.spent p.free).sp⟩:=by unfold takeP;rw [h]
  rw [e]
  have e2:DY p=p.free.map (fun s=>(s.index,s.tag))++p.old.map (fun o=>(o.ref.index,o.ref.tag)):=by unfold DY;simp [h]
  rw [e2]
  generalize takeL last p.own.index 0 p.spent p.free=T at *
  obtain ⟨Ti,Tt,Ts,TF⟩:=T
  dsimp only at hz
  rcases hz with ⟨rfl,rfl⟩|⟨s,r,h1,h2,rfl,rfl,rfl⟩
  ·refine .of_sub ?_
   unfold DY
   simp only [jL,gO,gM]
   exact List.sublist_append_right _ _
  ·have h0:s.tag+1≠0:=by
    unfold KX at h2
    have:=jI h2
    omega
   refine .of_sub ?_
   unfold DY
   dsimp only
   simp only [fM h0,jQ]
   have:=(h1.map fun s:CN=>(s.index,s.tag)).append_right (p.old.map fun o:CD=>(o.ref.index,o.ref.tag))
   simpa using this
 ·rw [VJ h];exact .refl _
theorem VK {last:Int} {p:BV} (h:(takeP last p).own.tag≠0) (h0:p.own.tag≠0→1≤p.own.tag∧p.own.tag≤last):1≤(takeP last p).own.tag∧(takeP last p).own.tag≤last:=by
 by_cases e:p.own.tag=0
 ·unfold takeP at h ⊢
  rw [e] at h ⊢
  dsimp only at h ⊢
  rcases LF last p.own.index p.free p.spent with ⟨h1,h2⟩|⟨s,r,h1,h2,h3,h4,h5⟩
  ·exact absurd h1 h
  ·rw [h4]
   unfold KX at h2
   have:=jI h2
   omega
 ·rw [VJ e];exact h0 e
theorem u1_ (p:BV) (pr:CD→Bool):ER (DY (backP p pr)) (DY p):=by
 refine .of_perm ?_
 unfold DY backP FH FV osl
 dsimp only
 refine List.Perm.append_left _ ?_
 rw [iV,fS]
 refine List.Perm.append_left _ ?_
 rw [mF]
 have h1:=(List.filter_append_perm pr p.old).map fun o:CD=>(o.ref.index,o.ref.tag)
 rw [iV] at h1
 exact h1
theorem RK (p:BV):ER (DY (leaveP p)) (DY p):=by
 refine .of_sub ?_
 unfold DY leaveP
 dsimp only
 rw [fL rfl,gM]
 exact List.sublist_append_right _ _
theorem w1_ {p:BV} (h:p.own.tag≠0) (hn:((DY p).map (·.1)).Nodup) : ∀q∈DY (leaveP p),q.1≠p.own.index:=by
 intro q hq e
 unfold DY at hn hq
 rw [fM h,lX,gH,lS] at hn
 unfold leaveP at hq
 dsimp only at hq
 rw [fL rfl,gM] at hq
 exact hn.1 (iP.2 ⟨q,hq,e⟩)
theorem LX {pr:CD→Bool} {l:List CD} {o:CD}:o∈FV pr l↔o∈l∧pr o=false:=by
 unfold FV;rw [List.mem_filter];simp
end Go.Proofs.YtccefppppedgkaaGreat
namespace Go.Proofs.YtccefppppedgkaaGreat
variable {c:AB} {t:Nat} {x:AC} {m:Mm}
theorem HM (h:AQ c x) (h2:x.pc≠2) (h15:x.pc≠15) (h21:x.pc≠21) (h24:x.pc≠24) (h26:x.pc≠26) (h27:x.pc≠27):(stepT c t x m).x.pool=x.pool:=by
 obtain ⟨k,hk1,hk2, -⟩:=BE h
 rw [AE hk1]
 have hz:=AS hk2
 repeat' (rcases hz with rfl|hz)
 all_goals first|(exfalso;omega)|rfl|(simp only [AO,s1,s2,s3,s4,s5,s6,s7,s8,s9,s10,s11,s12,s13,s14,s15,s16,s17,s18,s19,s20,s21,s22,s23,s24,s25,s26,s27,s28,s29,s30,s31,s32,s33,s34,s35,s36,s37,s38,failT,againT,nextSeqT,nextMailT,CE,BA,ownedT,finishT,scannedT,takeT,refuseT];(repeat' split)<;>rfl)
theorem AgO (h:AQ c x) (h15:x.pc≠15) (h22:x.pc≠22) (h23:x.pc≠23) (h28:x.pc≠28) (h29:x.pc≠29):(stepT c t x m).x.won=x.won:=by
 obtain ⟨k,hk1,hk2, -⟩:=BE h
 rw [AE hk1]
 have hz:=AS hk2
 repeat' (rcases hz with rfl|hz)
 all_goals first|(exfalso;omega)|rfl|(simp only [AO,s1,s2,s3,s4,s5,s6,s7,s8,s9,s10,s11,s12,s13,s14,s15,s16,s17,s18,s19,s20,s21,s22,s23,s24,s25,s26,s27,s28,s29,s30,s31,s32,s33,s34,s35,s36,s37,s38,failT,againT,nextSeqT,nextMailT,CE,BA,ownedT,finishT,scannedT,takeT,refuseT];(repeat' split)<;>rfl)
theorem KB (h:AQ c x) (h3:x.pc≠3) (h22:x.pc≠22) (h23:x.pc≠23) (h28:x.pc≠28) (h29:x.pc≠29) (h32:x.pc≠32):(stepT c t x m).x.base=x.base:=by
 obtain ⟨k,hk1,hk2, -⟩:=BE h
 rw [AE hk1]
 have hz:=AS hk2
 repeat' (rcases hz with rfl|hz)
 all_goals first|(exfalso;omega)|rfl|(simp only [AO,s1,s2,s3,s4,s5,s6,s7,s8,s9,s10,s11,s12,s13,s14,s15,s16,s17,s18,s19,s20,s21,s22,s23,s24,s25,s26,s27,s28,s29,s30,s31,s32,s33,s34,s35,s36,s37,s38,failT,againT,nextSeqT,nextMailT,CE,BA,ownedT,finishT,scannedT,takeT,refuseT];(repeat' split)<;>rfl)
theorem GB (h:AQ c x) (h1:x.pc≠1) (h22:x.pc≠22) (h23:x.pc≠23) (h28:x.pc≠28) (h29:x.pc≠29) (h30:x.pc≠30):(stepT c t x m).x.epoch=x.epoch:=by
 obtain ⟨k,hk1,hk2, -⟩:=BE h
 rw [AE hk1]
 have hz:=AS hk2
 repeat' (rcases hz with rfl|hz)
 all_goals first|(exfalso;omega)|rfl|(simp only [AO,s1,s2,s3,s4,s5,s6,s7,s8,s9,s10,s11,s12,s13,s14,s15,s16,s17,s18,s19,s20,s21,s22,s23,s24,s25,s26,s27,s28,s29,s30,s31,s32,s33,s34,s35,s36,s37,s38,failT,againT,nextSeqT,nextMailT,CE,BA,ownedT,finishT,scannedT,takeT,refuseT];(repeat' split)<;>rfl)
theorem HO (h:AQ c x):(stepT c t x m).x.req=x.req:=by
 obtain ⟨k,hk1,hk2, -⟩:=BE h
 rw [AE hk1]
 have hz:=AS hk2
 repeat' (rcases hz with rfl|hz)
 all_goals first|(exfalso;omega)|rfl|(simp only [AO,s1,s2,s3,s4,s5,s6,s7,s8,s9,s10,s11,s12,s13,s14,s15,s16,s17,s18,s19,s20,s21,s22,s23,s24,s25,s26,s27,s28,s29,s30,s31,s32,s33,s34,s35,s36,s37,s38,failT,againT,nextSeqT,nextMailT,CE,BA,ownedT,finishT,scannedT,takeT,refuseT];(repeat' split)<;>rfl)
end Go.Proofs.YtccefppppedgkaaGreat
namespace Go.Proofs.YtccefppppedgkaaGreat
theorem ST (c:AB) (x:AC):(takeT c x).pool=takeP c.tags x.pool:=by
 unfold takeT
 dsimp only
 split
 ·rfl
 ·split
  ·rfl
  ·rfl
theorem GY (c:AB) (x:AC):(scannedT c x).pool=x.pool∨(scannedT c x).pool=takeP c.tags x.pool:=by
 unfold scannedT
 split
 ·exact .inr (ST c x)
 ·exact .inl rfl
variable {c:AB} {t:Nat} {x:AC} {m:Mm}
theorem XF (h:x.pc=2):(stepT c t x m).x.pool=takeP c.tags x.pool:=by
 rw [AE (k:=2) h]
 exact ST c x
theorem ME (h:x.pc=15) (hr:ld m 0=wdF x.base):(stepT c t x m).x={ x with won:=true,res:=readR (doneL c x.nxt t),pool:=leaveP x.pool,pc:=20 }:=by
 rw [AE (k:=15) h]
 show (s15 c t x m).x=_
 unfold s15
 rw [fL hr]
theorem JK (h:x.pc=15) (hr:ld m 0≠wdF x.base):(stepT c t x m).x=failT c x:=by
 rw [AE (k:=15) h]
 show (s15 c t x m).x=_
 unfold s15
 rw [fM hr]
theorem MF (h:x.pc=21):(stepT c t x m).x={ x with pool:=awayP x.pool x.base (ld m 1),pc:=22 }:=by
 rw [AE (k:=21) h];rfl
def HJ (c:AB) (t:Nat) (x:AC) (m:Mm):BV :=
 if x.pc=24 then backP x.pool (prE (ld m 1))
 else if x.pc=26 then (if ld m 1=x.word then backP x.pool (prE (x.word+1)) else x.pool)
 else if x.pc=27∧x.i+1=c.threads then backP x.pool (prS (x.seen++[ld m (aHaz c x.i)])) else x.pool
theorem JY (h:x.pc=24∨x.pc=26∨x.pc=27):(stepT c t x m).x.pool=HJ c t x m∨(stepT c t x m).x.pool=takeP c.tags (HJ c t x m):=by
 rcases h with h|h|h
 ·rw [AE (k:=24) h]
  unfold HJ
  rw [fL h]
  show (s24 c t x m).x.pool=_∨(s24 c t x m).x.pool=_
  unfold s24
  dsimp only
  split
  ·exact .inl rfl
  ·exact GY c { x with word:=ld m 1,pool:=backP x.pool (prE (ld m 1)),i:=0,all_:=true,pc:=25 }
 ·rw [AE (k:=26) h]
  unfold HJ
  rw [fM (by omega),fL h]
  show (s26 c t x m).x.pool=_∨(s26 c t x m).x.pool=_
  have key : ∀p:BV,(if needsP p c.retire=true then { x with pc:=27,pool:=p } else scannedT c { x with pc:=27,pool:=p }:AC).pool=p∨(if needsP p c.retire=true then { x with pc:=27,pool:=p } else scannedT c { x with pc:=27,pool:=p }:AC).pool=takeP c.tags p:=fun p=>by
   split
   ·exact .inl rfl
   ·exact GY c { x with pc:=27,pool:=p }
  exact key _
 ·rw [AE (k:=27) h]
  unfold HJ
  rw [fM (by omega),fM (by omega)]
  show (s27 c t x m).x.pool=_∨(s27 c t x m).x.pool=_
  unfold s27
  dsimp only
  by_cases e:x.i+1=c.threads
  ·rw [fL e,fL ⟨h,e⟩]
   exact GY c { x with seen:=x.seen++[ld m (aHaz c x.i)],i:=x.i+1,pool:=backP x.pool (prS (x.seen++[ld m (aHaz c x.i)]))}
  ·rw [fM e,fM (fun g=>e g.2)]
   exact .inl rfl
theorem UL (c:AB) (t:Nat) (x:AC) (m:Mm):ER (DY (HJ c t x m)) (DY x.pool):=by
 unfold HJ
 repeat' split
 all_goals first|exact u1_ _ _|exact .refl _
theorem PI (h:AQ c x) (hr : ¬(x.pc=15∧ld m 0=wdF x.base)) (hw:(stepT c t x m).x.won=true):x.won=true:=by
 by_cases h1:x.pc=15
 ·rw [JK h1 (fun e=>hr ⟨h1,e⟩)] at hw
  exact hw
 ·by_cases h2:x.pc=22∨x.pc=23∨x.pc=28∨x.pc=29
  ·revert hw
   rcases h2 with h2|h2|h2|h2
   ·rw [AE (k:=22) h2];simp only [AO,s22,ownedT,finishT];repeat' split
    all_goals first|exact id|(intro e;cases e)
   ·rw [AE (k:=23) h2];simp only [AO,s23,ownedT,finishT];repeat' split
    all_goals first|exact id|(intro e;cases e)
   ·rw [AE (k:=28) h2];simp only [AO,s28,finishT];repeat' split
    all_goals first|exact id|(intro e;cases e)
   ·rw [AE (k:=29) h2];simp only [AO,s29,finishT];repeat' split
    all_goals first|exact id|(intro e;cases e)
  ·rw [AgO h h1 (by omega) (by omega) (by omega) (by omega)] at hw
   exact hw
theorem AQ.wonpc (h:AQ c x) (hw:x.won=true):20≤x.pc∧x.pc≤28:=by
 obtain ⟨k,hk1,hk2,ha⟩:=BE h
 have hz:=AS hk2
 repeat' (rcases hz with rfl|hz)
 all_goals first
  |omega
  |(exfalso;have:=ha.won;rw [hw] at this;cases this)
  |(exfalso;have:=ha.1.won;rw [hw] at this;cases this)
  |(exfalso;have:=ha.1.1.won;rw [hw] at this;cases this)
  |(exfalso;have:=ha.2.1;rw [hw] at this;cases this)
theorem AQ.won21 (h:AQ c x) (hp:x.pc=21):x.won=true:=by
 have ha:=h.at_
 rw [hp] at ha
 exact ha.1
theorem p7_ (h:x.pc=20):(stepT c t x m).x={ x with tri:=0,pc:=if x.won then 21 else 22 }:=by
 rw [AE (k:=20) h];rfl
theorem SQ (h:AQ c x) (hw:x.won=true) (h1:x.pc≠20):DN (stepT c t x m).x=false:=by
 have hp:=h.wonpc hw
 obtain ⟨k,hk1,hk2,ha⟩:=BE h
 rw [AE hk1]
 have hz:=AS hk2
 repeat' (rcases hz with rfl|hz)
 all_goals first
  |(exfalso;omega)
  |(refine WK ?_ ?_<;>(simp only [AO,s20,s21,s22,s23,s24,s25,s26,s27,s28,ownedT,finishT,AK,scannedT,takeT,refuseT,againT];(repeat' split)<;>first|decide|(dsimp only;decide)|(dsimp only;omega)))
theorem AcJ (h:AQ c x) (hr : ¬(x.pc=15∧ld m 0=wdF x.base)):ER (plc (stepT c t x m).x) (plc x):=by
 have hP:ER (DY (stepT c t x m).x.pool) (DY x.pool)∨x.pc=21:=by
  by_cases h2:x.pc=2
  ·rw [XF h2];exact .inl (VI _ _)
  ·by_cases h15:x.pc=15
   ·rw [JK h15 (fun e=>hr ⟨h15,e⟩)];exact .inl (.refl _)
   ·by_cases hl:x.pc=24∨x.pc=26∨x.pc=27
    ·rcases JY (t:=t) (m:=m) (c:=c) hl with e|e
     ·rw [e];exact .inl (UL _ _ _ _)
     ·rw [e];exact .inl ((VI _ _).trans (UL _ _ _ _))
    ·by_cases h21:x.pc=21
     ·exact .inr h21
     ·rw [HM h h2 h15 h21 (by omega) (by omega) (by omega)];exact .inl (.refl _)
 rcases hP with hP|h21
 ·have hi:DN (stepT c t x m).x=false∨(DN x=true∧(stepT c t x m).x.pool=x.pool∧(stepT c t x m).x.base=x.base):=by
   cases hw:(stepT c t x m).x.won
   ·exact .inl (ID hw)
   ·have hxw:=PI h hr hw
    by_cases h20:x.pc=20
    ·right
     refine ⟨by unfold DN;rw [hxw,h20];rfl,?_,?_⟩
     ·rw [p7_ h20]
     ·rw [p7_ h20]
    ·exact .inl (SQ h hxw h20)
  rcases hi with hi|⟨h1,h2,h3⟩
  ·rw [NV hi]
   exact hP.trans (.of_sub (List.sublist_append_left _ _))
  ·by_cases h4:DN (stepT c t x m).x=true
   ·refine .of_eq ?_
    unfold plc
    rw [h1,h2,h3,h4]
   ·rw [NV (by simpa using h4)]
    exact hP.trans (.of_sub (List.sublist_append_left _ _))
 ·refine .of_eq ?_
  have hw:=h.won21 h21
  rw [MF h21]
  unfold plc DY awayP
  have e1:DN ({ x with pool:=⟨x.pool.own,x.pool.free,x.pool.old++[⟨x.base,ld m 1⟩],x.pool.spent⟩,pc:=22 }:AC)=false:=WK (by dsimp only;decide) (by dsimp only;decide)
  have e2:DN x=true:=by unfold DN;rw [hw,h21];rfl
  rw [e1,e2]
  simp
end Go.Proofs.YtccefppppedgkaaGreat
namespace Go.Proofs.YtccefppppedgkaaGreat
def BY:Nat→List Int
 |1=>[2]
 |2=>[16,19,3,24,28]
 |3=>[4]
 |4=>[5]
 |5=>[6,16,19,3]
 |6=>[7,16,19,3]
 |7=>[7,20,8]
 |8=>[11,8,9]
 |9=>[10,9]
 |10=>[11,8]
 |11=>[12,11,13]
 |12=>[11,13]
 |13=>[14]
 |14=>[15,14]
 |15=>[20,16,19,3]
 |16=>[17]
 |17=>[18,17]
 |18=>[3]
 |19=>[20]
 |20=>[21,22]
 |21=>[22]
 |22=>[23,0,24,28]
 |23=>[0,24,28,22]
 |24=>[25,28,16,19,3,24]
 |25=>[25,26,27]
 |26=>[27,28,16,19,3,24]
 |27=>[27,28,16,19,3,24]
 |28=>[29,0]
 |29=>[0,30]
 |30=>[31]
 |31=>[32]
 |32=>[33]
 |33=>[34]
 |34=>[35,37]
 |35=>[36,37]
 |36=>[37]
 |37=>[38]
 |38=>[22,29]
 |_=>[]
variable {c:AB} {t:Nat} {x:AC} {m:Mm}
theorem AlY (h:AQ c x) (h0:x.pc≠0):(stepT c t x m).x.pc∈BY x.pc.toNat:=by
 obtain ⟨k,hk1,hk2, -⟩:=BE h
 rw [AE hk1,hk1,fW]
 have hz:=AS hk2
 repeat' (rcases hz with rfl|hz)
 ·exact absurd hk1 h0
 ·simp only [AO,s1,failT,againT,nextSeqT,nextMailT,CE,BA,ownedT,finishT,AK,scannedT,takeT,refuseT]
  (repeat' split)<;>simp [BY]
 ·simp only [AO,s2,failT,againT,nextSeqT,nextMailT,CE,BA,ownedT,finishT,AK,scannedT,takeT,refuseT]
  (repeat' split)<;>simp [BY]
 ·simp only [AO,s3,failT,againT,nextSeqT,nextMailT,CE,BA,ownedT,finishT,AK,scannedT,takeT,refuseT]
  (repeat' split)<;>simp [BY]
 ·simp only [AO,s4,failT,againT,nextSeqT,nextMailT,CE,BA,ownedT,finishT,AK,scannedT,takeT,refuseT]
  (repeat' split)<;>simp [BY]
 ·simp only [AO,s5,failT,againT,nextSeqT,nextMailT,CE,BA,ownedT,finishT,AK,scannedT,takeT,refuseT]
  (repeat' split)<;>simp [BY]
 ·simp only [AO,s6,failT,againT,nextSeqT,nextMailT,CE,BA,ownedT,finishT,AK,scannedT,takeT,refuseT]
  (repeat' split)<;>simp [BY]
 ·simp only [AO,s7,failT,againT,nextSeqT,nextMailT,CE,BA,ownedT,finishT,AK,scannedT,takeT,refuseT]
  (repeat' split)<;>simp [BY,hk1]
 ·simp only [AO,s8,failT,againT,nextSeqT,nextMailT,CE,BA,ownedT,finishT,AK,scannedT,takeT,refuseT]
  (repeat' split)<;>simp [BY]
 ·simp only [AO,s9,failT,againT,nextSeqT,nextMailT,CE,BA,ownedT,finishT,AK,scannedT,takeT,refuseT]
  (repeat' split)<;>simp [BY,hk1]
 ·simp only [AO,s10,failT,againT,nextSeqT,nextMailT,CE,BA,ownedT,finishT,AK,scannedT,takeT,refuseT]
  (repeat' split)<;>simp [BY]
 ·simp only [AO,s11,failT,againT,nextSeqT,nextMailT,CE,BA,ownedT,finishT,AK,scannedT,takeT,refuseT]
  (repeat' split)<;>simp [BY]
 ·simp only [AO,s12,failT,againT,nextSeqT,nextMailT,CE,BA,ownedT,finishT,AK,scannedT,takeT,refuseT]
  (repeat' split)<;>simp [BY]
 ·simp only [AO,s13,failT,againT,nextSeqT,nextMailT,CE,BA,ownedT,finishT,AK,scannedT,takeT,refuseT]
  (repeat' split)<;>simp [BY]
 ·simp only [AO,s14,failT,againT,nextSeqT,nextMailT,CE,BA,ownedT,finishT,AK,scannedT,takeT,refuseT]
  (repeat' split)<;>simp [BY,hk1]
 ·simp only [AO,s15,failT,againT,nextSeqT,nextMailT,CE,BA,ownedT,finishT,AK,scannedT,takeT,refuseT]
  (repeat' split)<;>simp [BY]
 ·simp only [AO,s16,failT,againT,nextSeqT,nextMailT,CE,BA,ownedT,finishT,AK,scannedT,takeT,refuseT]
  (repeat' split)<;>simp [BY]
 ·simp only [AO,s17,failT,againT,nextSeqT,nextMailT,CE,BA,ownedT,finishT,AK,scannedT,takeT,refuseT]
  (repeat' split)<;>simp [BY,hk1]
 ·simp only [AO,s18,failT,againT,nextSeqT,nextMailT,CE,BA,ownedT,finishT,AK,scannedT,takeT,refuseT]
  (repeat' split)<;>simp [BY]
 ·simp only [AO,s19,failT,againT,nextSeqT,nextMailT,CE,BA,ownedT,finishT,AK,scannedT,takeT,refuseT]
  (repeat' split)<;>simp [BY]
 ·simp only [AO,s20,failT,againT,nextSeqT,nextMailT,CE,BA,ownedT,finishT,AK,scannedT,takeT,refuseT]
  (repeat' split)<;>simp [BY]
 ·simp only [AO,s21,failT,againT,nextSeqT,nextMailT,CE,BA,ownedT,finishT,AK,scannedT,takeT,refuseT]
  (repeat' split)<;>simp [BY]
 ·simp only [AO,s22,failT,againT,nextSeqT,nextMailT,CE,BA,ownedT,finishT,AK,scannedT,takeT,refuseT]
  (repeat' split)<;>simp [BY]
 ·simp only [AO,s23,failT,againT,nextSeqT,nextMailT,CE,BA,ownedT,finishT,AK,scannedT,takeT,refuseT]
  (repeat' split)<;>simp [BY]
 ·simp only [AO,s24,failT,againT,nextSeqT,nextMailT,CE,BA,ownedT,finishT,AK,scannedT,takeT,refuseT]
  (repeat' split)<;>simp [BY]
 ·simp only [AO,s25,failT,againT,nextSeqT,nextMailT,CE,BA,ownedT,finishT,AK,scannedT,takeT,refuseT]
  (repeat' split)<;>simp [BY,hk1]
 ·simp only [AO,s26,failT,againT,nextSeqT,nextMailT,CE,BA,ownedT,finishT,AK,scannedT,takeT,refuseT]
  (repeat' split)<;>simp [BY]
 ·simp only [AO,s27,failT,againT,nextSeqT,nextMailT,CE,BA,ownedT,finishT,AK,scannedT,takeT,refuseT]
  (repeat' split)<;>simp [BY,hk1]
 ·simp only [AO,s28,failT,againT,nextSeqT,nextMailT,CE,BA,ownedT,finishT,AK,scannedT,takeT,refuseT]
  (repeat' split)<;>simp [BY]
 ·simp only [AO,s29,failT,againT,nextSeqT,nextMailT,CE,BA,ownedT,finishT,AK,scannedT,takeT,refuseT]
  (repeat' split)<;>simp [BY]
 ·simp only [AO,s30,failT,againT,nextSeqT,nextMailT,CE,BA,ownedT,finishT,AK,scannedT,takeT,refuseT]
  (repeat' split)<;>simp [BY]
 ·simp only [AO,s31,failT,againT,nextSeqT,nextMailT,CE,BA,ownedT,finishT,AK,scannedT,takeT,refuseT]
  (repeat' split)<;>simp [BY]
 ·simp only [AO,s32,failT,againT,nextSeqT,nextMailT,CE,BA,ownedT,finishT,AK,scannedT,takeT,refuseT]
  (repeat' split)<;>simp [BY]
 ·simp only [AO,s33,failT,againT,nextSeqT,nextMailT,CE,BA,ownedT,finishT,AK,scannedT,takeT,refuseT]
  (repeat' split)<;>simp [BY]
 ·simp only [AO,s34,failT,againT,nextSeqT,nextMailT,CE,BA,ownedT,finishT,AK,scannedT,takeT,refuseT]
  (repeat' split)<;>simp [BY]
 ·simp only [AO,s35,failT,againT,nextSeqT,nextMailT,CE,BA,ownedT,finishT,AK,scannedT,takeT,refuseT]
  (repeat' split)<;>simp [BY]
 ·simp only [AO,s36,failT,againT,nextSeqT,nextMailT,CE,BA,ownedT,finishT,AK,scannedT,takeT,refuseT]
  (repeat' split)<;>simp [BY]
 ·simp only [AO,s37,failT,againT,nextSeqT,nextMailT,CE,BA,ownedT,finishT,AK,scannedT,takeT,refuseT]
  (repeat' split)<;>simp [BY]
 ·simp only [AO,s38,failT,againT,nextSeqT,nextMailT,CE,BA,ownedT,finishT,AK,scannedT,takeT,refuseT]
  (repeat' split)<;>simp [BY]
def Rdg (x:AC):Prop:=(4≤x.pc∧x.pc≤15)∨(33≤x.pc∧x.pc≤36)
def Vdg (x:AC):Prop:=(6≤x.pc∧x.pc≤15)∨x.pc=35∨x.pc=36
theorem p8_ (h:AQ c x) (h0:x.pc≠0) {k:Nat} (hk:x.pc=(k:Int)):(stepT c t x m).x.pc∈BY k:=by
 have:=AlY (t:=t) (m:=m) h h0
 rwa [hk,fW] at this
theorem AuN (h:x.pc=5) (h6:(stepT c t x m).x.pc=6):ld m 0=wdF x.base:=by
 rw [AE (k:=5) h] at h6
 by_cases e:ld m 0=wdF x.base
 ·exact e
 ·exfalso
  have e2:(AO 5 c t x m).x=failT c x:=by show (s5 c t x m).x=_;unfold s5;rw [fM e]
  rw [e2] at h6
  obtain ⟨p,e3,hp⟩:=JD c x
  rw [e3] at h6
  dsimp only at h6
  omega
theorem AoZ (h:x.pc=34) (h6:(stepT c t x m).x.pc=35):ld m 0=wdF x.base:=by
 rw [AE (k:=34) h] at h6
 by_cases e:ld m 0=wdF x.base
 ·exact e
 ·exfalso
  have e2:(AO 34 c t x m).x.pc=37:=by show (s34 c t x m).x.pc=_;unfold s34;dsimp only;rw [fM e]
  omega
theorem ApA (h:x.pc=3∨x.pc=32):(stepT c t x m).x.base=rdF (ld m 0)∧(stepT c t x m).x.epoch=x.epoch:=by
 rcases h with h|h
 ·rw [AE (k:=3) h];exact ⟨rfl,rfl⟩
 ·rw [AE (k:=32) h];exact ⟨rfl,rfl⟩
theorem XT (h:AQ c x) (h0:x.pc≠0) (hv:Rdg (stepT c t x m).x):(Rdg x∧(stepT c t x m).x.base=x.base∧(stepT c t x m).x.epoch=x.epoch)∨((x.pc=3∨x.pc=32)∧(stepT c t x m).x.base=rdF (ld m 0)∧(stepT c t x m).x.epoch=x.epoch):=by
 by_cases h3:x.pc=3∨x.pc=32
 ·exact .inr ⟨h3,ApA h3⟩
 ·have key:Rdg x∧x.pc≠22∧x.pc≠23∧x.pc≠28∧x.pc≠29∧x.pc≠1∧x.pc≠30:=by
   obtain ⟨k,hk1,hk2, -⟩:=BE h
   have hp:=p8_ (t:=t) (m:=m) h h0 hk1
   unfold Rdg at *
   generalize (stepT c t x m).x.pc=p at *
   have hz:=AS hk2
   repeat' (rcases hz with rfl|hz)
   all_goals (simp only [BY,iE,kW,or_false] at hp<;>omega)
  exact .inl ⟨key.1,KB h (by omega) (by omega) (by omega) (by omega) (by omega) (by omega),GB h (by omega) (by omega) (by omega) (by omega) (by omega) (by omega)⟩
theorem s4_ (h:AQ c x) (h0:x.pc≠0) (hv:Vdg (stepT c t x m).x):(Vdg x∨((x.pc=5∨x.pc=34)∧ld m 0=wdF x.base))∧Rdg x∧(stepT c t x m).x.base=x.base∧(stepT c t x m).x.epoch=x.epoch:=by
 have key:(Vdg x∨(x.pc=5∧(stepT c t x m).x.pc=6)∨(x.pc=34∧(stepT c t x m).x.pc=35))∧Rdg x∧x.pc≠3∧x.pc≠32∧x.pc≠22∧x.pc≠23∧x.pc≠28∧x.pc≠29∧x.pc≠1∧x.pc≠30:=by
  obtain ⟨k,hk1,hk2, -⟩:=BE h
  have hp:=p8_ (t:=t) (m:=m) h h0 hk1
  unfold Vdg Rdg at *
  generalize (stepT c t x m).x.pc=p at *
  have hz:=AS hk2
  repeat' (rcases hz with rfl|hz)
  all_goals (simp only [BY,iE,kW,or_false] at hp<;>omega)
 refine ⟨?_,key.2.1,KB h (by omega) (by omega) (by omega) (by omega) (by omega) (by omega),GB h (by omega) (by omega) (by omega) (by omega) (by omega) (by omega)⟩
 rcases key.1 with h1|⟨h1,h2⟩|⟨h1,h2⟩
 ·exact .inl h1
 ·exact .inr ⟨.inl h1,AuN h1 h2⟩
 ·exact .inr ⟨.inr h1,AoZ h1 h2⟩
theorem XA (h:AQ c x) {o:CD} (ho:o∈(stepT c t x m).x.pool.old):o∈x.pool.old∨(x.pc=21∧o=⟨x.base,ld m 1⟩):=by
 by_cases h2:x.pc=2
 ·rw [XF h2] at ho;exact .inl ho
 ·by_cases h15:x.pc=15
  ·by_cases hr:ld m 0=wdF x.base
   ·rw [ME h15 hr] at ho;exact .inl ho
   ·rw [JK h15 hr] at ho;exact .inl ho
  ·by_cases hl:x.pc=24∨x.pc=26∨x.pc=27
   ·have hk:o∈(HJ c t x m).old:=by
     rcases JY (t:=t) (m:=m) (c:=c) hl with e|e
     ·rw [e] at ho;exact ho
     ·rw [e] at ho;exact ho
    left
    unfold HJ at hk
    repeat' split at hk
    all_goals first|exact (LX.1 hk).1|exact hk
   ·by_cases h21:x.pc=21
    ·rw [MF h21] at ho
     have:o∈x.pool.old++[⟨x.base,ld m 1⟩]:=ho
     rcases gJ.1 this with h|h
     ·exact .inl h
     ·exact .inr ⟨h21,by simpa using h⟩
    ·rw [HM h h2 h15 h21 (by omega) (by omega) (by omega)] at ho;exact .inl ho
def YD (c:AB) (x:AC) (m:Mm) (o:CD):Prop :=
 (x.pc=24∧prE (ld m 1) o=true)∨(x.pc=26∧ld m 1=x.word∧prE (x.word+1) o=true)∨(x.pc=27∧x.i+1=c.threads∧prS (x.seen++[ld m (aHaz c x.i)]) o=true)
theorem AeY (h:AQ c x) {o:CD} (ho:o∈x.pool.old):o∈(stepT c t x m).x.pool.old∨YD c x m o:=by
 by_cases h2:x.pc=2
 ·rw [XF h2];exact .inl ho
 ·by_cases h15:x.pc=15
  ·by_cases hr:ld m 0=wdF x.base
   ·rw [ME h15 hr];exact .inl ho
   ·rw [JK h15 hr];exact .inl ho
  ·by_cases hl:x.pc=24∨x.pc=26∨x.pc=27
   ·have hk:o∈(HJ c t x m).old∨YD c x m o:=by
     unfold HJ YD
     split
     ·rename_i g
      cases e:prE (ld m 1) o
      ·exact .inl (LX.2 ⟨ho,e⟩)
      ·exact .inr (.inl ⟨g,rfl⟩)
     ·split
      ·rename_i g
       split
       ·rename_i g2
        cases e:prE (x.word+1) o
        ·exact .inl (LX.2 ⟨ho,e⟩)
        ·exact .inr (.inr (.inl ⟨g,g2,rfl⟩))
       ·exact .inl ho
      ·split
       ·rename_i g
        cases e:prS (x.seen++[ld m (aHaz c x.i)]) o
        ·exact .inl (LX.2 ⟨ho,e⟩)
        ·exact .inr (.inr (.inr ⟨g.1,g.2,rfl⟩))
       ·exact .inl ho
    rcases hk with hk|hk
    ·left
     rcases JY (t:=t) (m:=m) (c:=c) hl with e|e
     ·rw [e];exact hk
     ·rw [e];exact hk
    ·exact .inr hk
   ·by_cases h21:x.pc=21
    ·rw [MF h21]
     exact .inl (iL _ ho)
    ·rw [HM h h2 h15 h21 (by omega) (by omega) (by omega)];exact .inl ho
end Go.Proofs.YtccefppppedgkaaGreat
namespace Go.Proofs.YtccefppppedgkaaGreat
variable {c:AB} {t:Nat} {x:AC} {m:Mm}
theorem GI (h:AQ c x) (h0:x.pc≠0) {P:Prop} (hP : ∀k:Nat,x.pc=(k:Int)→k≤38→(stepT c t x m).x.pc∈BY k→P):P:=by
 obtain ⟨k,hk1,hk2, -⟩:=BE h
 exact hP k hk1 hk2 (p8_ h h0 hk1)
theorem AnT (h:AQ c x) (h0:x.pc≠0) (hv:(stepT c t x m).x.pc=25):x.pc=24∨x.pc=25:=by
 refine GI (t:=t) (m:=m) h h0 fun k hk1 hk2 hp=>?_
 rw [hv] at hp
 have hz:=AS hk2
 repeat' (rcases hz with rfl|hz)
 all_goals first|omega|(simp [BY] at hp;done)
theorem AnU (h:AQ c x) (h0:x.pc≠0) (hv:(stepT c t x m).x.pc=26):x.pc=25:=by
 refine GI (t:=t) (m:=m) h h0 fun k hk1 hk2 hp=>?_
 rw [hv] at hp
 have hz:=AS hk2
 repeat' (rcases hz with rfl|hz)
 all_goals first|omega|(simp [BY] at hp;done)
theorem AyO (h:AQ c x) (h0:x.pc≠0) (hv:(stepT c t x m).x.pc=27):x.pc=25∨x.pc=26∨x.pc=27:=by
 refine GI (t:=t) (m:=m) h h0 fun k hk1 hk2 hp=>?_
 rw [hv] at hp
 have hz:=AS hk2
 repeat' (rcases hz with rfl|hz)
 all_goals first|omega|(simp [BY] at hp;done)
def AjT (c:AB) (t:Nat) (x:AC) (m:Mm):Bool:=x.all_&&(decide (x.i=(t:Int))||letsW (ld m (aEpo c x.i)) x.word)
theorem r6_ (h:x.pc=24) (hv:(stepT c t x m).x.pc=25):(stepT c t x m).x.word=ld m 1∧(stepT c t x m).x.i=0:=by
 rw [AE (k:=24) h] at hv ⊢
 have e:(AO 24 c t x m).x=(s24 c t x m).x:=rfl
 rw [e] at hv ⊢
 unfold s24 at hv ⊢
 dsimp only at hv ⊢
 split at hv
 ·rename_i g;rw [fL g];exact ⟨rfl,rfl⟩
 ·exfalso
  rcases EF c { x with word:=ld m 1,pool:=backP x.pool (prE (ld m 1)),i:=0,all_:=true,pc:=25 } with ⟨_,e⟩|⟨_,e⟩
  ·rw [e] at hv
   obtain ⟨p,sc,r,e2,hp⟩:=HP c { x with word:=ld m 1,pool:=backP x.pool (prE (ld m 1)),i:=0,all_:=true,pc:=25 }
   rw [e2] at hv
   dsimp only at hv
   omega
  ·rw [e] at hv
   dsimp only at hv
   omega
theorem MP (h:x.pc=25):(stepT c t x m).x.word=x.word ∧
  ((stepT c t x m).x.pc=25→(stepT c t x m).x.i=x.i+1∧(stepT c t x m).x.all_=AjT c t x m) ∧
  ((stepT c t x m).x.pc=26 → ¬x.i+1<c.threads∧AjT c t x m=true) ∧
  ((stepT c t x m).x.pc=27→(stepT c t x m).x.i=0∧(stepT c t x m).x.seen=[]):=by
 rw [AE (k:=25) h]
 have e:(AO 25 c t x m).x=(s25 c t x m).x:=rfl
 rw [e]
 unfold s25
 dsimp only
 by_cases g:x.i+1<c.threads
 ·rw [fL g]
  dsimp only
  refine ⟨rfl,fun _=>⟨rfl,rfl⟩,fun e=>by omega,fun e=>by omega⟩
 ·rw [fM g]
  dsimp only
  refine ⟨rfl,fun e=>?_,fun e=>⟨g,?_⟩,fun _=>⟨rfl,rfl⟩⟩
  ·split at e<;>omega
  ·split at e
   ·rename_i g2;exact g2
   ·omega
theorem AlP (hl:AQ c x) (h:x.pc=26) (hv:(stepT c t x m).x.pc=27):(stepT c t x m).x.i=0∧(stepT c t x m).x.seen=[]:=by
 have ha:=hl.at_
 rw [h] at ha
 obtain ⟨-,h1,h2⟩:=ha
 rw [AE (k:=26) h] at hv ⊢
 have key : ∀p:BV,(if needsP p c.retire=true then { x with pc:=27,pool:=p } else scannedT c { x with pc:=27,pool:=p }:AC).pc=27→(if needsP p c.retire=true then { x with pc:=27,pool:=p } else scannedT c { x with pc:=27,pool:=p }:AC).i=0∧(if needsP p c.retire=true then { x with pc:=27,pool:=p } else scannedT c { x with pc:=27,pool:=p }:AC).seen=[]:=fun p hp=>by
  split at hp
  ·rename_i g;rw [fL g];exact ⟨h1,gT h2⟩
  ·exfalso
   rcases EF c { x with pc:=27,pool:=p } with ⟨_,e⟩|⟨_,e⟩
   ·rw [e] at hp
    obtain ⟨q,sc,r,e2,hq⟩:=HP c { x with pc:=27,pool:=p }
    rw [e2] at hp
    dsimp only at hp
    omega
   ·rw [e] at hp
    dsimp only at hp
    omega
 exact key _ hv
theorem AlQ (h:x.pc=27) (hv:(stepT c t x m).x.pc=27):x.i+1≠c.threads∧(stepT c t x m).x.i=x.i+1∧(stepT c t x m).x.seen=x.seen++[ld m (aHaz c x.i)]:=by
 rw [AE (k:=27) h] at hv ⊢
 have e:(AO 27 c t x m).x=(s27 c t x m).x:=rfl
 rw [e] at hv ⊢
 unfold s27 at hv ⊢
 dsimp only at hv ⊢
 split at hv
 ·exfalso
  rcases EF c { x with seen:=x.seen++[ld m (aHaz c x.i)],i:=x.i+1,pool:=backP x.pool (prS (x.seen++[ld m (aHaz c x.i)]))} with ⟨_,e⟩|⟨_,e⟩
  ·rw [e] at hv
   obtain ⟨q,sc,r,e2,hq⟩:=HP c { x with seen:=x.seen++[ld m (aHaz c x.i)],i:=x.i+1,pool:=backP x.pool (prS (x.seen++[ld m (aHaz c x.i)]))}
   rw [e2] at hv
   dsimp only at hv
   omega
  ·rw [e] at hv
   dsimp only at hv
   omega
 ·rename_i g;rw [fM g];exact ⟨g,rfl,rfl⟩
theorem AuP (h:x.pc=6) (hv:(stepT c t x m).x.pc=7):(stepT c t x m).x.buf=[]:=by
 rw [AE (k:=6) h] at hv ⊢
 have e:(AO 6 c t x m).x=(s6 c t x m).x:=rfl
 rw [e] at hv ⊢
 unfold s6 at hv ⊢
 dsimp only at hv ⊢
 split at hv
 ·rename_i g;rw [fL g]
 ·exfalso
  obtain ⟨p,e2,hp⟩:=JD c x
  rw [e2] at hv
  dsimp only at hv
  omega
theorem AbM (h:x.pc=7):(stepT c t x m).x.buf=x.buf++[ld m (aNode c x.base.index+1+x.i)]:=by
 rw [AE (k:=7) h]
 show (BA c t x _).buf=_
 unfold BA
 dsimp only
 split
 ·rfl
 ·split<;>rfl
theorem MX (h:AQ c x) (h6:x.pc≠6) (h7:x.pc≠7) (h22:x.pc≠22) (h23:x.pc≠23) (h28:x.pc≠28) (h29:x.pc≠29):(stepT c t x m).x.buf=x.buf:=by
 obtain ⟨k,hk1,hk2, -⟩:=BE h
 rw [AE hk1]
 have hz:=AS hk2
 repeat' (rcases hz with rfl|hz)
 all_goals first|(exfalso;omega)|rfl|(simp only [AO,s1,s2,s3,s4,s5,s8,s9,s10,s11,s12,s13,s14,s15,s16,s17,s18,s19,s20,s21,s24,s25,s26,s27,s30,s31,s32,s33,s34,s35,s36,s37,s38,failT,againT,nextSeqT,nextMailT,CE,scannedT,takeT,refuseT];(repeat' split)<;>rfl)
theorem AiE (h:AQ c x) (h0:x.pc≠0):(stepT c t x m).x.buf=x.buf∨(stepT c t x m).x.buf=[]∨(x.pc=7∧(stepT c t x m).x.buf=x.buf++[ld m (aNode c x.base.index+1+x.i)]):=by
 by_cases h7:x.pc=7
 ·exact .inr (.inr ⟨h7,AbM h7⟩)
 ·by_cases hs:x.pc=6∨x.pc=22∨x.pc=23∨x.pc=28∨x.pc=29
  ·rcases hs with h2|h2|h2|h2|h2
   ·rw [AE (k:=6) h2];simp only [AO,s6,failT,againT];repeat' split
    all_goals first|exact .inl rfl|exact .inr (.inl rfl)
   ·rw [AE (k:=22) h2];simp only [AO,s22,ownedT,finishT,AK];repeat' split
    all_goals first|exact .inl rfl|exact .inr (.inl rfl)
   ·rw [AE (k:=23) h2];simp only [AO,s23,ownedT,finishT,AK];repeat' split
    all_goals first|exact .inl rfl|exact .inr (.inl rfl)
   ·rw [AE (k:=28) h2];simp only [AO,s28,finishT,AK];repeat' split
    all_goals first|exact .inl rfl|exact .inr (.inl rfl)
   ·rw [AE (k:=29) h2];simp only [AO,s29,finishT,AK];repeat' split
    all_goals first|exact .inl rfl|exact .inr (.inl rfl)
  ·exact .inl (MX h (by omega) h7 (by omega) (by omega) (by omega) (by omega))
theorem AqZ (h:x.pc=11∨x.pc=12) (hv:(stepT c t x m).x.pc=13):(stepT c t x m).x.nxt=allO c x.buf (stepT c t x m).x.found∧(stepT c t x m).x.found=GW t x:=by
 have key : ∀y:AC,y.buf=x.buf→GW t y=GW t x→(nextMailT c t y).pc=13→(nextMailT c t y).nxt=allO c x.buf (nextMailT c t y).found∧(nextMailT c t y).found=GW t x:=fun y e1 e2 hp=>by
  unfold nextMailT at hp ⊢
  split at hp
  ·cases hp
  ·rename_i g
   rw [fM g]
   dsimp only
   rw [e1,e2]
   exact ⟨rfl,rfl⟩
 rcases h with h|h
 ·rw [AE (k:=11) h] at hv ⊢
  have e:(AO 11 c t x m).x=(s11 c t x m).x:=rfl
  rw [e] at hv ⊢
  unfold s11 at hv ⊢
  dsimp only at hv ⊢
  split at hv
  ·cases hv
  ·rename_i g;rw [fM g];exact key { x with word:=ld m (aMail c x.i)} rfl rfl hv
 ·rw [AE (k:=12) h] at hv ⊢
  have e:(AO 12 c t x m).x=(s12 c t x m).x:=rfl
  rw [e] at hv ⊢
  unfold s12 at hv ⊢
  dsimp only at hv ⊢
  split at hv
  ·rename_i g;rw [fL g];exact key { x with tri:=x.tri+1 } rfl rfl hv
  ·cases hv
end Go.Proofs.YtccefppppedgkaaGreat
namespace Go.Proofs.YtccefppppedgkaaGreat
variable {c:AB} {x:AC}
theorem AQ.own_at (h:AQ c x) (h1:3≤x.pc) (h2:x.pc≤19):x.pool.own.tag≠0:=by
 obtain ⟨k,hk1,hk2,ha⟩:=BE h
 have hz:=AS hk2
 repeat' (rcases hz with rfl|hz)
 all_goals first|(exfalso;omega)|exact ha.2|exact ha.1.2
theorem AQ.i12 (h:AQ c x) (hp:x.pc=12):0≤x.i∧x.i<c.threads:=by
 have ha:=h.at_
 rw [hp] at ha
 exact ha.2.1
theorem AQ.i14 (h:AQ c x) (hp:x.pc=14):0≤x.i∧x.i<sizeC c∧(x.nxt.length:Int)=sizeC c:=by
 have ha:=h.at_
 rw [hp] at ha
 exact ⟨ha.2.2.2.1,ha.2.2.2.2,ha.2.2.1⟩
theorem AQ.j17 (h:AQ c x) (hp:x.pc=17):0≤x.j∧x.j<5:=by
 have ha:=h.at_
 rw [hp] at ha
 exact ⟨ha.2.1,ha.2.2.1⟩
def AnE (c:AB) (x:AC):Prop:=x.pool.own.tag≠0→0≤x.pool.own.index∧x.pool.own.index<nodesL c
variable {t:Nat}
theorem JC {a:Int} (f:Okc c) (h:AQ c x) (ht:(t:Int)<c.threads) (ho:AnE c x) (w:AA c t x a):0≤a∧a<totL c:=by
 have hf:=f.facts
 obtain ⟨e,hn⟩:=f.tot
 have hz:1*(1+sizeC c)≤nodesL c*(1+sizeC c):=iD hn (by omega)
 cases w with
 |root hp=>omega
 |glob hp=>omega
 |phase hp=>omega
 |epo hp=>unfold aEpo;omega
 |haz hp=>unfold aHaz;omega
 |arg hp=>have:=h.j17 hp;unfold EP;omega
 |seq hp=>unfold aSeq;omega
 |mail hp=>have:=h.i12 hp;unfold aMail;omega
 |mine hp=>unfold aMail;omega
 |tag hp =>
  have:=ho (h.own_at (by omega) (by omega))
  have:=EX f this.1 this.2 (gG 0) (by omega)
  omega
 |recd hp =>
  have hi:=h.i14 hp
  have:=ho (h.own_at (by omega) (by omega))
  have:=EX f this.1 this.2 (k:=1+x.i) (by omega) (by omega)
  omega
variable {m:Mm}
theorem WA.aa {a v:Int} (w:WA c t x m a v):AA c t x a:=by
 cases w with
 |root hp=>exact .root hp
 |glob hp=>exact .glob hp
 |phase hp=>exact .phase hp
 |epo hp=>exact .epo (by omega)
 |epo0 hp=>exact .epo (by omega)
 |haz hp=>exact .haz (by omega)
 |haz0 hp=>exact .haz (by omega)
 |arg hp=>exact .arg hp
 |seq hp=>exact .seq hp
 |mail hp=>exact .mail hp
 |mine hp=>exact .mine hp
 |tag hp=>exact .tag hp
 |recd hp=>exact .recd hp
structure Ctx (c:AB) (t:Nat) (x:AC) (m:Mm):Prop where
 f:Okc c
 h:AQ c x
 h0:x.pc≠0
 ht:(t:Int)<c.threads
 ho:AnE c x
 wl:(m.w.length:Int)=totL c
theorem Ctx.keep (k:Ctx c t x m) {b:Int} (hb:0≤b) (hn : ∀a,AA c t x a→a≠b):ld (stepT c t x m).m b=ld m b:=by
 rcases XU (t:=t) (m:=m) k.h with e|⟨a,v,w,e⟩
 ·exact WN e b
 ·have hr:=JC k.f k.h k.ht k.ho w.aa
  rw [GU e hr.1 (by have:=k.wl;omega) hb,fM (hn a w.aa)]
theorem Ctx.wl' (k:Ctx c t x m):((stepT c t x m).m.w.length:Int)=totL c:=by
 rcases XU (t:=t) (m:=m) k.h with e|⟨a,v,w,e⟩
 ·rw [e];exact k.wl
 ·rw [e,iJ];exact k.wl
theorem Ctx.root {c:AB} {t:Nat} {x:AC} {m:Mm} (k:Ctx c t x m) (hr : ¬(x.pc=15∧ld m 0=wdF x.base)):ld (stepT c t x m).m 0=ld m 0:=by
 rcases XU (t:=t) (m:=m) k.h with e|⟨a,v,w,e⟩
 ·exact WN e 0
 ·have hg:=JC k.f k.h k.ht k.ho w.aa
  rw [GU e hg.1 (by have:=k.wl;omega) (gG 0),fM]
  have hf:=k.f.facts
  have h14:=fun hp=>(k.h.i14 hp)
  have hown:3≤x.pc→x.pc≤19→3+c.threads*9≤aNode c x.pool.own.index:=fun a b=>by
   have:=k.ho (k.h.own_at a b)
   have:=EX k.f this.1 this.2 (gG 0) (by omega)
   omega
  have h12:=fun hp=>(k.h.i12 hp)
  have h17:=fun hp=>(k.h.j17 hp)
  cases w with
  |root hp g=>exact absurd ⟨hp,g⟩ hr
  |glob hp=>omega
  |phase hp=>omega
  |epo hp=>unfold aEpo;omega
  |epo0 hp=>unfold aEpo;omega
  |haz hp=>unfold aHaz;omega
  |haz0 hp=>unfold aHaz;omega
  |arg hp=>have:=h17 hp;unfold EP;omega
  |seq hp=>unfold aSeq;omega
  |mail hp=>have:=h12 hp;unfold aMail;omega
  |mine hp=>unfold aMail;omega
  |tag hp=>have:=hown (by omega) (by omega);omega
  |recd hp=>have:=hown (by omega) (by omega);have:=h14 hp;omega
theorem Ctx.won (k:Ctx c t x m) (h15:x.pc=15) (hr:ld m 0=wdF x.base):ld (stepT c t x m).m 0=wdF x.pool.own:=by
 have e:(stepT c t x m).m.w=m.w.set (0:Int).toNat (wdF x.pool.own):=by
  rw [AE (k:=15) h15]
  show (s15 c t x m).m.w=_
  unfold s15
  rw [fL hr]
  show (swM _ _ _ _ _).w=_
  rw [PJ,fL hr]
 have hz:=JC k.f k.h k.ht k.ho (.root h15)
 rw [GU e (gG 0) (by have:=k.wl;omega) (gG 0),fL rfl]
theorem Ctx.glob {c:AB} {t:Nat} {x:AC} {m:Mm} (k:Ctx c t x m):ld (stepT c t x m).m 1=ld m 1∨(x.pc=26∧ld m 1=x.word∧ld (stepT c t x m).m 1=x.word+1):=by
 rcases XU (t:=t) (m:=m) k.h with e|⟨a,v,w,e⟩
 ·exact .inl (WN e 1)
 ·have hg:=JC k.f k.h k.ht k.ho w.aa
  rw [GU e hg.1 (by have:=k.wl;omega) (by decide)]
  have hf:=k.f.facts
  have hown:3≤x.pc→x.pc≤19→3+c.threads*9≤aNode c x.pool.own.index:=fun a b=>by
   have:=k.ho (k.h.own_at a b)
   have:=EX k.f this.1 this.2 (gG 0) (by omega)
   omega
  have h14:=fun hp=>(k.h.i14 hp)
  have h12:=fun hp=>(k.h.i12 hp)
  have h17:=fun hp=>(k.h.j17 hp)
  cases w with
  |glob hp g=>exact .inr ⟨hp,g,by rw [fL rfl]⟩
  |root hp=>left;rw [fM (by omega)]
  |phase hp=>left;rw [fM (by omega)]
  |epo hp=>left;rw [fM dL]
  |epo0 hp=>left;rw [fM dL]
  |haz hp=>left;rw [fM dK]
  |haz0 hp=>left;rw [fM dK]
  |arg hp=>left;rw [fM (by have:=h17 hp;unfold EP;omega)]
  |seq hp=>left;rw [fM eW]
  |mail hp=>left;rw [fM (by have:=h12 hp;unfold aMail;omega)]
  |mine hp=>left;rw [fM dJ]
  |tag hp=>left;rw [fM (by have:=hown (by omega) (by omega);omega)]
  |recd hp=>left;rw [fM (by have:=hown (by omega) (by omega);have:=h14 hp;omega)]
theorem Ctx.epo {c:AB} {t:Nat} {x:AC} {m:Mm} (k:Ctx c t x m) {u:Nat} (hu:(u:Int)<c.threads) (hn:u≠t∨(x.pc≠2∧x.pc≠31∧x.pc≠28∧x.pc≠38)):ld (stepT c t x m).m (aEpo c u)=ld m (aEpo c u):=by
 have hf:=k.f.facts
 refine k.keep dL fun a w=>?_
 have hown:3≤x.pc→x.pc≤19→3+c.threads*9≤aNode c x.pool.own.index:=fun a b=>by
  have:=k.ho (k.h.own_at a b)
  have:=EX k.f this.1 this.2 (gG 0) (by omega)
  omega
 have ht:=k.ht
 have h14:=fun hp=>(k.h.i14 hp)
 have h12:=fun hp=>(k.h.i12 hp)
 have h17:=fun hp=>(k.h.j17 hp)
 unfold aEpo
 cases w with
 |root hp=>omega
 |glob hp=>omega
 |phase hp=>omega
 |epo hp=>unfold aEpo;omega
 |haz hp=>unfold aHaz;omega
 |arg hp=>have:=h17 hp;unfold EP;omega
 |seq hp=>unfold aSeq;omega
 |mail hp=>have:=h12 hp;unfold aMail;omega
 |mine hp=>unfold aMail;omega
 |tag hp=>have:=hown (by omega) (by omega);omega
 |recd hp=>have:=hown (by omega) (by omega);have:=h14 hp;omega
theorem Ctx.haz {c:AB} {t:Nat} {x:AC} {m:Mm} (k:Ctx c t x m) {u:Nat} (hu:(u:Int)<c.threads) (hn:u≠t∨(x.pc≠4∧x.pc≠33∧x.pc≠20∧x.pc≠37)):ld (stepT c t x m).m (aHaz c u)=ld m (aHaz c u):=by
 have hf:=k.f.facts
 refine k.keep dK fun a w=>?_
 have hown:3≤x.pc→x.pc≤19→3+c.threads*9≤aNode c x.pool.own.index:=fun a b=>by
  have:=k.ho (k.h.own_at a b)
  have:=EX k.f this.1 this.2 (gG 0) (by omega)
  omega
 have ht:=k.ht
 have h14:=fun hp=>(k.h.i14 hp)
 have h12:=fun hp=>(k.h.i12 hp)
 have h17:=fun hp=>(k.h.j17 hp)
 unfold aHaz
 cases w with
 |root hp=>omega
 |glob hp=>omega
 |phase hp=>omega
 |epo hp=>unfold aEpo;omega
 |haz hp=>unfold aHaz;omega
 |arg hp=>have:=h17 hp;unfold EP;omega
 |seq hp=>unfold aSeq;omega
 |mail hp=>have:=h12 hp;unfold aMail;omega
 |mine hp=>unfold aMail;omega
 |tag hp=>have:=hown (by omega) (by omega);omega
 |recd hp=>have:=hown (by omega) (by omega);have:=h14 hp;omega
theorem Ctx.epo_set (k:Ctx c t x m) (h:x.pc=2∨x.pc=31):ld (stepT c t x m).m (aEpo c t)=GE x.epoch:=by
 have hr:=JC k.f k.h k.ht k.ho (.epo (by omega):AA c t x (aEpo c t))
 have e:(stepT c t x m).m.w=m.w.set (aEpo c t).toNat (GE x.epoch):=by
  rcases h with h|h
  ·rw [AE (k:=2) h];rfl
  ·rw [AE (k:=31) h];rfl
 rw [GU e hr.1 (by have:=k.wl;omega) hr.1,fL rfl]
theorem Ctx.haz_set (k:Ctx c t x m) (h:x.pc=4∨x.pc=33):ld (stepT c t x m).m (aHaz c t)=wdF x.base:=by
 have hr:=JC k.f k.h k.ht k.ho (.haz (by omega):AA c t x (aHaz c t))
 have e:(stepT c t x m).m.w=m.w.set (aHaz c t).toNat (wdF x.base):=by
  rcases h with h|h
  ·rw [AE (k:=4) h];rfl
  ·rw [AE (k:=33) h];rfl
 rw [GU e hr.1 (by have:=k.wl;omega) hr.1,fL rfl]
theorem Ctx.node (k:Ctx c t x m) {i q:Int} (i0:0≤i) (i1:i<nodesL c) (q0:0≤q) (q1:q≤sizeC c) (hn:(x.pc≠13∧x.pc≠14)∨i≠x.pool.own.index):ld (stepT c t x m).m (aNode c i+q)=ld m (aNode c i+q):=by
 have hf:=k.f.facts
 have hin:=EX k.f i0 i1 q0 q1
 refine k.keep (by omega) fun a w=>?_
 have ht:=k.ht
 have h12:=fun hp=>(k.h.i12 hp)
 have h17:=fun hp=>(k.h.j17 hp)
 cases w with
 |root hp=>omega
 |glob hp=>omega
 |phase hp=>omega
 |epo hp=>unfold aEpo;omega
 |haz hp=>unfold aHaz;omega
 |arg hp=>have:=h17 hp;unfold EP;omega
 |seq hp=>unfold aSeq;omega
 |mail hp=>have:=h12 hp;unfold aMail;omega
 |mine hp=>unfold aMail;omega
 |tag hp =>
  have ho:=k.ho (k.h.own_at (by omega) (by omega))
  have hne:i≠x.pool.own.index:=by rcases hn with h|h;omega;exact h
  have:=o7_ k.f ho.1 i0 (Ne.symm hne) (gG 0) (by omega) q0 q1
  omega
 |recd hp =>
  have ho:=k.ho (k.h.own_at (by omega) (by omega))
  have hi:=k.h.i14 hp
  have hne:i≠x.pool.own.index:=by rcases hn with h|h;omega;exact h
  have:=o7_ k.f ho.1 i0 (Ne.symm hne) (k:=1+x.i) (by omega) (by omega) q0 q1
  omega
end Go.Proofs.YtccefppppedgkaaGreat
namespace Go.Proofs.YtccefppppedgkaaGreat
abbrev Nm:=Int × List Int
def AaO (c:AB) (m:Mm) (w:Nm):Prop:=ld m (aNode c (rdI w.1))=rdT w.1 ∧ ∀k:Nat,k<w.2.length→ld m (aNode c (rdI w.1)+1+k)=w.2.getD k 0
def YE (m:Mm) (l:List AC) (b h:Int):Prop :=
 ld m 0=b∨(∃(u:Nat) (y:AC),l[u]? = some y∧DN y=true∧wdF y.base=b) ∨ ∃(u:Nat) (y:AC) (o:CD),l[u]? = some y∧o∈y.pool.old∧wdF o.ref=b∧h≤o.stamp
def VS (m:Mm) (l:List AC) (b:Int):Prop :=
 ld m 0=b∨(∃(u:Nat) (y:AC),l[u]? = some y∧DN y=true∧wdF y.base=b) ∨ ∃(u:Nat) (y:AC) (o:CD),l[u]? = some y∧o∈y.pool.old∧wdF o.ref=b
theorem YE.held {m:Mm} {l:List AC} {b h:Int} (k:YE m l b h):VS m l b:=by
 rcases k with k|k|⟨u,y,o,k1,k2,k3,_⟩
 ·exact .inl k
 ·exact .inr (.inl k)
 ·exact .inr (.inr ⟨u,y,o,k1,k2,k3⟩)
def inE (x:AC):Prop:=(3≤x.pc∧x.pc≤28∧x.waits=false)∨(32≤x.pc∧x.pc≤38)
structure Inv (c:AB) (S:List Nm) (H:Nat→Int) (m:Mm) (l:List AC):Prop where
 wl:(m.w.length:Int)=totL c
 ll:(l.length:Int)=c.threads
 g0:0≤ld m 1
 loc : ∀(t:Nat) x,l[t]? = some x→AQ c x
 sok : ∀w∈S,JM w.1=true∧(0≤w.1∧w.1<18446744073709551616)∧(0≤rdI w.1∧rdI w.1<nodesL c)∧rdT w.1≤c.tags∧(w.2.length:Int)=sizeC c
 snd:(S.map (·.1)).Nodup
 root : ∃r,(ld m 0,r)∈S
 rmx : ∀w∈S,rdI w.1=rdI (ld m 0)→rdT w.1≤rdT (ld m 0)
 own : ∀(t:Nat) x,l[t]? = some x→x.pool.own.tag≠0→1≤x.pool.own.tag∧x.pool.own.tag≤c.tags
 prg : ∀(t:Nat) x,l[t]? = some x → ∀p∈plc x,(0≤p.1∧p.1<nodesL c) ∧ ∀w∈S,rdI w.1=p.1→rdT w.1≤p.2
 pnd : ∀(t:Nat) x,l[t]? = some x→((plc x).map (·.1)).Nodup
 pdj : ∀(t u:Nat) x y,t≠u→l[t]? = some x→l[u]? = some y → ∀p∈plc x,∀q∈plc y,p.1≠q.1
 prt : ∀(t:Nat) x,l[t]? = some x → ∀p∈plc x,p.1≠rdI (ld m 0)
 olS : ∀(t:Nat) x o,l[t]? = some x→o∈x.pool.old→(∃r,(wdF o.ref,r)∈S)∧o.ref=rdF (wdF o.ref)
 baS : ∀(t:Nat) x,l[t]? = some x→Rdg x∨DN x=true→(∃r,(wdF x.base,r)∈S)∧x.base=rdF (wdF x.base)
 cont : ∀w∈S,VS m l w.1→AaO c m w
 rep : ∀(t:Nat) x,l[t]? = some x→Rdg x→x.epoch≤H t∧H t≤ld m 1∧ld m 1≤H t+1∧ld m (aEpo c t)=GE x.epoch
 viv : ∀(t:Nat) x,l[t]? = some x→Vdg x→YE m l (wdF x.base) (H t)
 vhz : ∀(t:Nat) x,l[t]? = some x→(5≤x.pc∧x.pc≤15)∨(34≤x.pc∧x.pc≤36)→ld m (aHaz c t)=wdF x.base
 buf : ∀(t:Nat) x r,l[t]? = some x→(wdF x.base,r)∈S→(x.pc=7→x.buf=r.take x.buf.length)∧(8≤x.pc→x.pc≤15→x.buf=r)
 sg : ∀(u:Nat) y,l[u]? = some y→y.pc=25∨y.pc=26→0≤y.word∧y.word≤ld m 1
 sE : ∀(r s:Nat) x y,l[r]? = some x→l[s]? = some y→Rdg x→(y.pc=25→H r<y.word→(r:Int)<y.i→y.all_=false)∧(y.pc=26→y.word≤H r)
 sG : ∀(r s:Nat) x y o,l[r]? = some x→l[s]? = some y→Vdg x→y.pc=27→(r:Int)<y.i→o∈y.pool.old→wdF o.ref=wdF x.base→wdF x.base∈y.seen
 ep : ∀(t:Nat) x,l[t]? = some x→(inE x→ld m (aEpo c t)=GE x.epoch)∧(inE x∨x.pc=2∨x.pc=31→0≤x.epoch∧x.epoch≤ld m 1)
 oc : ∀(t:Nat) x,l[t]? = some x→x.pc=14∨x.pc=15→ld m (aNode c x.pool.own.index)=x.pool.own.tag ∧ ∀k:Nat,(k:Int)<sizeC c→(x.pc=14→(k:Int)<x.i)→ld m (aNode c x.pool.own.index+1+k)=x.nxt.getD k 0
 nx : ∀(t:Nat) x,l[t]? = some x→13≤x.pc→x.pc≤15→x.nxt=allO c x.buf x.found
theorem AG {l:List AC} {t u:Nat} {x' y:AC} (h:(l.set t x')[u]? = some y):(u=t∧y=x')∨(u≠t∧l[u]? = some y):=by
 rw [gP] at h
 split at h
 ·rename_i e
  split at h
  ·cases h;exact .inl ⟨e.symm,rfl⟩
  ·cases h
 ·rename_i e;exact .inr ⟨fun g=>e g.symm,h⟩
theorem AyB {w:Int} (h:JM w=true) (h0:0≤w) (h1:w<18446744073709551616):wdF (rdF w)=w:=(q4_ h0 h1 h).2
theorem EL {x:AC} (h:x.pool.own.tag≠0):(x.pool.own.index,x.pool.own.tag-1)∈plc x:=by
 unfold plc DY
 rw [fM h]
 simp
theorem p1_ {x:AC} {o:CD} (h:o∈x.pool.old):(o.ref.index,o.ref.tag)∈plc x:=by
 unfold plc DY
 exact iL _ (iF _ (iF _ (iP.2 ⟨o,h,rfl⟩)))
theorem AdL {x:AC} (h:DN x=true):(x.base.index,x.base.tag)∈plc x:=by
 unfold plc
 rw [h]
 simp
theorem i8_ {x:AC} (hn:((plc x).map (·.1)).Nodup) (h:x.pool.own.tag≠0) {o:CD} (ho:o∈x.pool.old):o.ref.index≠x.pool.own.index:=by
 intro e
 unfold plc DY at hn
 rw [fM h,lX,gS,gH,lS] at hn
 exact hn.1 (iP.2 ⟨(o.ref.index,o.ref.tag),iL _ (iF _ (iP.2 ⟨o,ho,rfl⟩)),e⟩)
section
variable {c:AB} {S:List Nm} {H:Nat→Int} {m:Mm} {l:List AC} {t:Nat} {x:AC}
theorem Inv.tlt (I:Inv c S H m l) {u:Nat} {y:AC} (h:l[u]? = some y):(u:Int)<c.threads:=by
 have:=(gZ.1 h).1
 have:=I.ll
 omega
theorem Inv.ctx (I:Inv c S H m l) (f:Okc c) (h:l[t]? = some x) (h0:x.pc≠0):Ctx c t x m :=
 ⟨f,I.loc t x h,h0,I.tlt h,fun e=>(I.prg t x h _ (EL e)).1,I.wl⟩
theorem AfB (I:Inv c S H m l) (h:l[t]? = some x) (h0:(stepT c t x m).x.pool.own.tag≠0):1≤(stepT c t x m).x.pool.own.tag∧(stepT c t x m).x.pool.own.tag≤c.tags:=by
 have hl:=I.loc t x h
 have ho:=I.own t x h
 by_cases h2:x.pc=2
 ·rw [XF h2] at h0 ⊢;exact VK h0 ho
 ·by_cases h15:x.pc=15
  ·by_cases hr:ld m 0=wdF x.base
   ·rw [ME h15 hr] at h0;exact absurd rfl h0
   ·rw [JK h15 hr] at h0 ⊢;exact ho h0
  ·by_cases hk:x.pc=24∨x.pc=26∨x.pc=27
   ·have e0:(HJ c t x m).own=x.pool.own:=by
     unfold HJ
     repeat' split
     all_goals rfl
    rcases JY (t:=t) (m:=m) (c:=c) hk with e|e
    ·rw [e,e0] at h0 ⊢;exact ho h0
    ·rw [e] at h0 ⊢;exact VK h0 (by rw [e0];exact ho)
   ·by_cases h21:x.pc=21
    ·rw [MF h21] at h0 ⊢;exact ho h0
    ·rw [HM hl h2 h15 h21 (by omega) (by omega) (by omega)] at h0 ⊢;exact ho h0
theorem UG (hl:AQ c x) (hr : ¬(x.pc=15∧ld m 0=wdF x.base)) (hi:DN (stepT c t x m).x=true):DN x=true∧(stepT c t x m).x.base=x.base:=by
 have hw:(stepT c t x m).x.won=true:=by unfold DN at hi;simp only [fX] at hi;exact hi.1
 have hxw:=PI hl hr hw
 by_cases h20:x.pc=20
 ·refine ⟨by unfold DN;rw [hxw,h20];rfl,?_⟩
  rw [p7_ h20]
 ·rw [SQ hl hxw h20] at hi;cases hi
theorem AjM (hl:AQ c x) (hi:DN x=true):(DN (stepT c t x m).x=true∧(stepT c t x m).x.base=x.base)∨(x.pc=21∧⟨x.base,ld m 1⟩∈(stepT c t x m).x.pool.old):=by
 have hw:x.won=true∧(x.pc=20∨x.pc=21):=by
  unfold DN at hi
  simp only [fX,lH,gE] at hi
  exact hi
 rcases hw.2 with h20|h21
 ·left
  rw [p7_ h20]
  refine ⟨?_,rfl⟩
  unfold DN
  rw [hw.1]
  rfl
 ·right
  refine ⟨h21,?_⟩
  rw [MF h21]
  exact iF _ (by simp)
theorem VS.back (hl:AQ c x) (h:l[t]? = some x) (hr : ¬(x.pc=15∧ld m 0=wdF x.base)) (h0:ld (stepT c t x m).m 0=ld m 0) {b:Int} (k:VS (stepT c t x m).m (l.set t (stepT c t x m).x) b):VS m l b:=by
 rcases k with k|⟨u,y,k1,k2,k3⟩|⟨u,y,o,k1,k2,k3⟩
 ·exact .inl (h0▸k)
 ·rcases AG k1 with ⟨rfl,rfl⟩|⟨_,k1⟩
  ·obtain ⟨e1,e2⟩:=UG hl hr k2
   exact .inr (.inl ⟨u,x,h,e1,by rw [←e2];exact k3⟩)
  ·exact .inr (.inl ⟨u,y,k1,k2,k3⟩)
 ·rcases AG k1 with ⟨rfl,rfl⟩|⟨_,k1⟩
  ·rcases XA hl k2 with k2|⟨h21,rfl⟩
   ·exact .inr (.inr ⟨u,x,o,h,k2,k3⟩)
   ·exact .inr (.inl ⟨u,x,h,by unfold DN;rw [hl.won21 h21,h21];rfl,k3⟩)
  ·exact .inr (.inr ⟨u,y,o,k1,k2,k3⟩)
theorem YE.step (hl:AQ c x) (h:l[t]? = some x) (h0:ld (stepT c t x m).m 0=ld m 0) {b g:Int} (hg:g≤ld m 1) (k:YE m l b g) (hf : ∀o∈x.pool.old,wdF o.ref=b→g≤o.stamp→YD c x m o→False):YE (stepT c t x m).m (l.set t (stepT c t x m).x) b g:=by
 have hlt:=(gZ.1 h).1
 have hset:(l.set t (stepT c t x m).x)[t]? = some (stepT c t x m).x:=by rw [gP,fL rfl,fL hlt]
 have hoth : ∀(u:Nat) y,u≠t→l[u]? = some y→(l.set t (stepT c t x m).x)[u]? = some y:=fun u y hu hy=>by rw [gP,fM (Ne.symm hu)];exact hy
 rcases k with k|⟨u,y,k1,k2,k3⟩|⟨u,y,o,k1,k2,k3,k4⟩
 ·exact .inl (h0.trans k)
 ·by_cases hu:u=t
  ·subst hu
   rw [h] at k1;cases k1
   rcases AjM (t:=u) (m:=m) hl k2 with ⟨e1,e2⟩|⟨e1,e2⟩
   ·exact .inr (.inl ⟨u,_,hset,e1,by rw [e2];exact k3⟩)
   ·exact .inr (.inr ⟨u,_,_,hset,e2,k3,hg⟩)
  ·exact .inr (.inl ⟨u,y,hoth u y hu k1,k2,k3⟩)
 ·by_cases hu:u=t
  ·subst hu
   rw [h] at k1;cases k1
   rcases AeY (t:=u) (m:=m) hl k2 with e|e
   ·exact .inr (.inr ⟨u,_,o,hset,e,k3,k4⟩)
   ·exact (hf o k2 k3 k4 e).elim
  ·exact .inr (.inr ⟨u,y,o,hoth u y hu k1,k2,k3,k4⟩)
end
end Go.Proofs.YtccefppppedgkaaGreat
namespace Go.Proofs.YtccefppppedgkaaGreat
def o5_ (H:Nat→Int) (t:Nat) (x:AC) (m:Mm):Nat→Int:=fun u=>if u=t∧(x.pc=3∨x.pc=32) then ld m 1 else H u
theorem WU {H:Nat→Int} {t u:Nat} {x:AC} {m:Mm} (h:u≠t):o5_ H t x m u=H u:=fM fun e=>h e.1
theorem WV {H:Nat→Int} {t:Nat} {x:AC} {m:Mm} (h : ¬(x.pc=3∨x.pc=32)):o5_ H t x m t=H t:=fM fun e=>h e.2
theorem o6_ {H:Nat→Int} {t:Nat} {x:AC} {m:Mm} (h:x.pc=3∨x.pc=32):o5_ H t x m t=ld m 1:=fL ⟨rfl,h⟩
section
variable {c:AB} {S:List Nm} {H:Nat→Int} {m:Mm} {l:List AC} {t:Nat} {x:AC}
theorem w8_ (I:Inv c S H m l) (h:l[t]? = some x) {r:Nat} {y:AC} (hy:l[r]? = some y) (hv:Vdg y) {o:CD} (ho:o∈x.pool.old) (hb:wdF o.ref=wdF y.base) (hs:H r≤o.stamp) : ¬YD c x m o:=by
 have hrd:Rdg y:=by unfold Vdg at hv;unfold Rdg;omega
 obtain ⟨r1,r2,r3,r4⟩:=I.rep r y hy hrd
 have hl:=I.loc t x h
 rintro (⟨hp,hf⟩|⟨hp,hw,hf⟩|⟨hp,hi,hf⟩)
 ·unfold prE AfF at hf
  have:=jI hf
  omega
 ·have:=(I.sE r t y x hy h hrd).2 hp
  unfold prE AfF at hf
  have:=jI hf
  omega
 ·have hseen:wdF y.base∈x.seen++[ld m (aHaz c x.i)]:=by
   have hrt:=I.tlt hy
   by_cases e:(r:Int)<x.i
   ·exact iL _ (I.sG r t y x o hy h hv hp e ho hb)
   ·have e2:x.i=(r:Int):=by omega
    rw [e2,I.vhz r y hy (by unfold Vdg at hv;omega)]
    exact iF _ (by simp)
  unfold prS at hf
  have hn:word o.ref.index o.ref.tag ∉ x.seen++[ld m (aHaz c x.i)]:=by simpa using hf
  exact hn (by rw [show word o.ref.index o.ref.tag=wdF o.ref from rfl,hb];exact hseen)
theorem Rdg.of_v {x:AC} (h:Vdg x):Rdg x:=by unfold Vdg at h;unfold Rdg;omega
theorem AtG (hl:AQ c x) (h0:x.pc≠0) (hv:(5≤(stepT c t x m).x.pc∧(stepT c t x m).x.pc≤15)∨(34≤(stepT c t x m).x.pc∧(stepT c t x m).x.pc≤36)):x.pc=4∨x.pc=33∨(5≤x.pc∧x.pc≤15)∨(34≤x.pc∧x.pc≤36):=by
 refine GI (t:=t) (m:=m) hl h0 fun k hk1 hk2 hp=>?_
 generalize (stepT c t x m).x.pc=p at *
 have hz:=AS hk2
 repeat' (rcases hz with rfl|hz)
 all_goals (simp only [BY,iE,kW,or_false] at hp<;>omega)
theorem ApB (hl:AQ c x) (h0:x.pc≠0) (h1:7≤(stepT c t x m).x.pc) (h2:(stepT c t x m).x.pc≤15):x.pc=6∧(stepT c t x m).x.pc=7∨x.pc=7∧((stepT c t x m).x.pc=7∨(stepT c t x m).x.pc=8)∨(8≤x.pc∧x.pc≤15∧8≤(stepT c t x m).x.pc):=by
 refine GI (t:=t) (m:=m) hl h0 fun k hk1 hk2 hp=>?_
 generalize (stepT c t x m).x.pc=p at *
 have hz:=AS hk2
 repeat' (rcases hz with rfl|hz)
 all_goals (simp only [BY,iE,kW,or_false] at hp<;>omega)
theorem AnO (hl:AQ c x) (h0:x.pc≠0) (h1:13≤(stepT c t x m).x.pc) (h2:(stepT c t x m).x.pc≤15):((x.pc=11∨x.pc=12)∧(stepT c t x m).x.pc=13)∨(x.pc=13∧(stepT c t x m).x.pc=14)∨(x.pc=14∧((stepT c t x m).x.pc=14∨(stepT c t x m).x.pc=15)):=by
 refine GI (t:=t) (m:=m) hl h0 fun k hk1 hk2 hp=>?_
 generalize (stepT c t x m).x.pc=p at *
 have hz:=AS hk2
 repeat' (rcases hz with rfl|hz)
 all_goals (simp only [BY,iE,kW,or_false] at hp<;>omega)
theorem AhG (hl:AQ c x) (h28:x.pc≠28) (h29:x.pc≠29) (hp:(stepT c t x m).x.pc≠0):(stepT c t x m).x.waits=x.waits:=by
 obtain ⟨k,hk1,hk2, -⟩:=BE hl
 rw [AE hk1] at hp ⊢
 revert hp
 have hz:=AS hk2
 repeat' (rcases hz with rfl|hz)
 all_goals first|(exfalso;omega)|(intro _;rfl)|(simp only [AO,s1,s2,s3,s4,s5,s6,s7,s8,s9,s10,s11,s12,s13,s14,s15,s16,s17,s18,s19,s20,s21,s22,s23,s24,s25,s26,s27,s30,s31,s32,s33,s34,s35,s36,s37,s38,failT,againT,nextSeqT,nextMailT,CE,BA,ownedT,finishT,AK,scannedT,takeT,refuseT];(repeat' split)<;>first|(intro _;rfl)|(intro e;exact absurd rfl e))
theorem ApV (hl:AQ c x) (h0:x.pc≠0) (hv:inE (stepT c t x m).x):x.pc=2∨x.pc=31∨(inE x∧x.pc≠28∧x.pc≠38∧x.pc≠2∧x.pc≠31∧x.pc≠1∧x.pc≠30∧x.pc≠29∧(x.pc=22∨x.pc=23→(stepT c t x m).x.epoch=x.epoch)):=by
  have hw:x.pc≠28→x.pc≠29→(stepT c t x m).x.pc≠0→(stepT c t x m).x.waits=x.waits:=fun a b d=>AhG hl a b d
  have ha:=hl.at_
  have key:x.pc=2∨x.pc=31∨(inE x∧x.pc≠28∧x.pc≠38∧x.pc≠2∧x.pc≠31∧x.pc≠1∧x.pc≠30∧x.pc≠29):=by
    obtain ⟨k,hk1,hk2,ha⟩:=BE hl
    have hp:=p8_ (t:=t) (m:=m) hl h0 hk1
    unfold inE at *
    generalize (stepT c t x m).x.pc=p at *
    generalize (stepT c t x m).x.waits=w at *
    have hz:=AS hk2
    repeat' (rcases hz with rfl|hz)
    all_goals try (simp only [BY,iE,kW,or_false] at hp)
    all_goals first
      |omega
      | (have e:=hw (by omega) (by omega) (by omega)
         have e2:w=false:=by rcases hv with hv|hv;exact hv.2.2;omega
         rw [e2] at e
         refine .inr (.inr ⟨.inl ⟨by omega,by omega,e.symm⟩,by omega,by omega,by omega,by omega,by omega,by omega,by omega⟩))
      | (exfalso
         have e:=hw (by omega) (by omega) (by omega)
         have e2:=ha.2.2.1
         have e3:w=false:=by rcases hv with hv|hv;exact hv.2.2;omega
         rw [e2,e3] at e
         cases e)
  rcases key with k|k|k
  · exact .inl k
  · exact .inr (.inl k)
  · refine .inr (.inr ⟨k.1,k.2.1,k.2.2.1,k.2.2.2.1,k.2.2.2.2.1,k.2.2.2.2.2.1,k.2.2.2.2.2.2.1,k.2.2.2.2.2.2.2,fun h2=>?_⟩)
    have hpc:(stepT c t x m).x.pc≠0:=by unfold inE at hv;omega
    revert hpc
    rcases h2 with h2|h2
    · rw [AE (k:=22) h2];simp only [AO,s22,ownedT,finishT,AK];(repeat' split)<;>first|(intro _;rfl)|(intro e;exact absurd rfl e)
    · rw [AE (k:=23) h2];simp only [AO,s23,ownedT,finishT,AK];(repeat' split)<;>first|(intro _;rfl)|(intro e;exact absurd rfl e)
end
end Go.Proofs.YtccefppppedgkaaGreat
namespace Go.Proofs.YtccefppppedgkaaGreat
section
variable {c:AB} {S:List Nm} {H:Nat→Int} {m:Mm} {l:List AC} {t:Nat} {x:AC}
theorem AjE (I:Inv c S H m l) (h:l[t]? = some x) (h1:x.pool.own.tag≠0) (h2:DN x=false) {w:Nm} (hw:VS m l w.1):rdI w.1≠x.pool.own.index:=by
 intro e
 have ho:=EL h1
 rcases hw with k|⟨u,y,k1,k2,k3⟩|⟨u,y,o,k1,k2,k3⟩
 ·exact I.prt t x h _ ho (by rw [k];exact e.symm)
 ·have hb:=(I.baS u y k1 (.inr k2)).2
  have hi:rdI w.1=y.base.index:=by rw [←k3];exact (congrArg IW.index hb).symm
  by_cases hu:u=t
  ·subst hu;rw [h] at k1;cases k1;rw [h2] at k2;cases k2
  ·exact I.pdj u t y x hu k1 h _ (AdL k2) _ ho (hi.symm.trans e)
 ·have hb:=(I.olS u y o k1 k2).2
  have hi:rdI w.1=o.ref.index:=by rw [←k3];exact (congrArg IW.index hb).symm
  by_cases hu:u=t
  ·subst hu;rw [h] at k1;cases k1
   exact i8_ (I.pnd u x h) h1 k2 (hi.symm.trans e)
  ·exact I.pdj u t y x hu k1 h _ (p1_ k2) _ ho (hi.symm.trans e)
theorem UB (I:Inv c S H m l) (f:Okc c) (h:l[t]? = some x) (h0:x.pc≠0) {w:Nm} (hw:w∈S) (hh:VS m l w.1) (k:AaO c m w):AaO c (stepT c t x m).m w:=by
 have K:=I.ctx f h h0
 obtain ⟨-, -,hr, -,hz⟩:=I.sok w hw
 have hn:(x.pc≠13∧x.pc≠14)∨rdI w.1≠x.pool.own.index:=by
  by_cases hp:x.pc=13∨x.pc=14
  ·right
   exact AjE I h (K.h.own_at (by omega) (by omega)) (WK (by omega) (by omega)) hh
  ·exact .inl (by omega)
 have hf:=f.facts
 refine ⟨?_,fun q hq=>?_⟩
 ·have:=K.node hr.1 hr.2 (gG 0) (by omega) hn
  rw [Int.add_zero] at this
  rw [this];exact k.1
 ·have:=K.node hr.1 hr.2 (q:=1+(q:Int)) (by omega) (by omega) hn
  rw [←mH] at this
  rw [this];exact k.2 q hq
theorem AfZ (I:Inv c S H m l):wdF (rdF (ld m 0))=ld m 0:=by
 obtain ⟨r,hr⟩:=I.root
 obtain ⟨h1,h2, -⟩:=I.sok _ hr
 exact AyB h1 h2.1 h2.2
theorem s3_ (p:x.pc=14):(stepT c t x m).x.i=x.i+1∧(stepT c t x m).x.nxt=x.nxt∧((stepT c t x m).x.pc=15→x.i+1=(x.nxt.length:Int)):=by
 rw [AE (k:=14) p]
 have e:(AO 14 c t x m).x=(s14 c t x m).x:=rfl
 rw [e]
 unfold s14
 dsimp only
 by_cases g:x.i+1=(x.nxt.length:Int)
 ·rw [fL g];exact ⟨rfl,rfl,fun _=>g⟩
 ·rw [fM g];exact ⟨rfl,rfl,fun e=>by dsimp only at e;omega⟩
theorem AdM (f:Okc c) (I:Inv c S H m l) (h:l[t]? = some x) (h0:x.pc≠0) (hr : ¬(x.pc=15∧ld m 0=wdF x.base)):Inv c S (o5_ H t x m) (stepT c t x m).m (l.set t (stepT c t x m).x):=by
 have K:=I.ctx f h h0
 have hl:=K.h
 have hl':=VE (t:=t) (m:=m) f hl h0
 have hf:=f.facts
 have W0:=K.root hr
 have W1:=K.glob
 have hF:=AcJ (t:=t) hl hr
 have hmono:ld m 1≤ld (stepT c t x m).m 1:=by rcases W1 with e|⟨_,e1,e2⟩<;>omega
 have hG : ∀(r:Nat) y,l[r]? = some y→Rdg y→ld (stepT c t x m).m 1≤H r+1:=fun r y hy hv=>by
  have:=(I.rep r y hy hv).2.2.1
  rcases W1 with e|⟨e0,e1,e2⟩
  ·omega
  ·have:=(I.sE r t y x hy h hv).2 e0
   omega
 have hL : ∀(r:Nat) y,l[r]? = some y→Vdg y→YE m l (wdF y.base) (H r)→YE (stepT c t x m).m (l.set t (stepT c t x m).x) (wdF y.base) (H r):=fun r y hy hv k =>
  k.step hl h W0 (I.rep r y hy (Rdg.of_v hv)).2.1 fun o ho hb hs=>w8_ I h hy hv ho hb hs
 constructor
 case wl=>exact K.wl'
 case ll=>rw [iJ];exact I.ll
 case g0=>have:=I.g0;omega
 case loc =>
  intro u y hy
  rcases AG hy with ⟨rfl,rfl⟩|⟨_,hy⟩
  ·exact hl'
  ·exact I.loc u y hy
 case sok=>exact I.sok
 case snd=>exact I.snd
 case root=>rw [W0];exact I.root
 case rmx=>rw [W0];exact I.rmx
 case own =>
  intro u y hy
  rcases AG hy with ⟨rfl,rfl⟩|⟨_,hy⟩
  ·exact AfB I h
  ·exact I.own u y hy
 case prg =>
  intro u y hy p hp
  rcases AG hy with ⟨rfl,rfl⟩|⟨_,hy⟩
  ·exact I.prg u x h p (hF.1 p hp)
  ·exact I.prg u y hy p hp
 case pnd =>
  intro u y hy
  rcases AG hy with ⟨rfl,rfl⟩|⟨_,hy⟩
  ·exact hF.2 (I.pnd u x h)
  ·exact I.pnd u y hy
 case pdj =>
  intro u v y z huv hy hz p hp q hq
  rcases AG hy with ⟨e1,e2⟩|⟨h1,hy1⟩
  ·rcases AG hz with ⟨e3,e4⟩|⟨h2,hz1⟩
   ·exact absurd (e1.trans e3.symm) huv
   ·rw [e2] at hp;exact I.pdj t v x z (e1▸huv) h hz1 p (hF.1 p hp) q hq
  ·rcases AG hz with ⟨e3,e4⟩|⟨h2,hz1⟩
   ·rw [e4] at hq;exact I.pdj u t y x h1 hy1 h p hp q (hF.1 q hq)
   ·exact I.pdj u v y z huv hy1 hz1 p hp q hq
 case prt =>
  intro u y hy p hp
  rw [W0]
  rcases AG hy with ⟨rfl,rfl⟩|⟨_,hy⟩
  ·exact I.prt u x h p (hF.1 p hp)
  ·exact I.prt u y hy p hp
 case olS =>
  intro u y o hy ho
  rcases AG hy with ⟨rfl,rfl⟩|⟨_,hy⟩
  ·rcases XA hl ho with ho|⟨h21,rfl⟩
   ·exact I.olS u x o h ho
   ·exact I.baS u x h (.inr (by unfold DN;rw [hl.won21 h21,h21];rfl))
  ·exact I.olS u y o hy ho
 case baS =>
  intro u y hy hv
  rcases AG hy with ⟨rfl,rfl⟩|⟨_,hy⟩
  ·rcases hv with hv|hv
   ·rcases XT hl h0 hv with ⟨e1,e2,_⟩|⟨_,e2,_⟩
    ·rw [e2];exact I.baS u x h (.inl e1)
    ·rw [e2,AfZ I];exact ⟨I.root,rfl⟩
   ·obtain ⟨e1,e2⟩:=UG hl hr hv
    rw [e2];exact I.baS u x h (.inr e1)
  ·exact I.baS u y hy hv
 case cont =>
  intro w hw hh
  have hh':=VS.back hl h hr W0 hh
  exact UB I f h h0 hw hh' (I.cont w hw hh')
 case rep =>
  intro u y hy hv
  rcases AG hy with ⟨rfl,rfl⟩|⟨hu,hy⟩
  ·rcases XT hl h0 hv with ⟨e1,e2,e3⟩|⟨e1,e2,e3⟩
   ·obtain ⟨r1,r2,r3,r4⟩:=I.rep u x h e1
    have hg:=hG u x h e1
    have hp : ¬(x.pc=3∨x.pc=32):=by unfold Rdg at e1;omega
    rw [e3,WV hp,K.epo K.ht (.inr (by unfold Rdg at e1;omega))]
    exact ⟨r1,by omega,hg,r4⟩
   ·have hE:=I.ep u x h
    have hi:inE x:=by
     unfold inE
     rcases e1 with e|e
     ·have ha:=hl.at_
      rw [e] at ha
      exact .inl ⟨by omega,by omega,ha.1.wai⟩
     ·exact .inr (by omega)
    have hb:=hE.2 (.inl hi)
    have hg:ld (stepT c u x m).m 1=ld m 1:=by rcases W1 with e|⟨e0,_⟩;exact e;omega
    rw [e3,o6_ e1,K.epo K.ht (.inr (by omega)),hg]
    exact ⟨hb.2,gG _,by omega,hE.1 hi⟩
  ·obtain ⟨r1,r2,r3,r4⟩:=I.rep u y hy hv
   have hg:=hG u y hy hv
   rw [WU hu,K.epo (I.tlt hy) (.inl hu)]
   exact ⟨r1,by omega,hg,r4⟩
 case viv =>
  intro u y hy hv
  rcases AG hy with ⟨rfl,rfl⟩|⟨hu,hy⟩
  ·obtain ⟨e1,e2,e3,e4⟩:=s4_ hl h0 hv
   have hp : ¬(x.pc=3∨x.pc=32):=by unfold Rdg at e2;omega
   rw [e3,WV hp]
   rcases e1 with e1|⟨_,e1⟩
   ·exact hL u x h e1 (I.viv u x h e1)
   ·exact .inl (by rw [W0];exact e1)
  ·rw [WU hu]
   exact hL u y hy hv (I.viv u y hy hv)
 case vhz =>
  intro u y hy hv
  rcases AG hy with ⟨rfl,rfl⟩|⟨hu,hy⟩
  ·have hp:=AtG hl h0 hv
   have hb:(stepT c u x m).x.base=x.base:=KB hl (by omega) (by omega) (by omega) (by omega) (by omega) (by omega)
   rw [hb]
   by_cases e:x.pc=4∨x.pc=33
   ·exact K.haz_set e
   ·rw [K.haz K.ht (.inr (by omega))]
    exact I.vhz u x h (by omega)
  ·rw [K.haz (I.tlt hy) (.inl hu)]
   exact I.vhz u y hy hv
 case buf =>
  intro u y r hy hS
  rcases AG hy with ⟨rfl,rfl⟩|⟨hu,hy⟩
  ·by_cases h7:7≤(stepT c u x m).x.pc∧(stepT c u x m).x.pc≤15
   ·have hp:=ApB hl h0 h7.1 h7.2
    have hb:(stepT c u x m).x.base=x.base:=KB hl (by omega) (by omega) (by omega) (by omega) (by omega) (by omega)
    rw [hb] at hS
    rcases hp with ⟨p1,p2⟩|⟨p1,p2⟩|⟨p1,p2,p3⟩
    ·rw [AuP p1 p2]
     exact ⟨fun _=>rfl,fun e=>by omega⟩
    ·have hB:=(I.buf u x r h hS).1 p1
     have ha:=hl.at_
     rw [p1] at ha
     obtain ⟨-,i0,i1,i2⟩:=ha
     have hz:(r.length:Int)=sizeC c:=(I.sok _ hS).2.2.2.2
     have hv:Vdg x:=by unfold Vdg;omega
     have hC:=I.cont _ hS (I.viv u x h hv).held
     have hbs:=(I.baS u x h (.inl (Rdg.of_v hv))).2
     have hi:rdI (wdF x.base)=x.base.index:=(congrArg IW.index hbs).symm
     have hlt:x.buf.length<r.length:=by omega
     have hw:=hC.2 x.buf.length hlt
     rw [hi,i2] at hw
     have hn:x.buf++[ld m (aNode c x.base.index+1+x.i)]=r.take (x.buf.length+1):=by
      rw [hw,iG, ←hB,ZgE hlt,fK,ZgE hlt]
      rfl
     rw [AbM p1]
     refine ⟨fun _=>by rw [hn,fQ,kC (by omega)],fun e1 _=>?_⟩
     have h8:At c (stepT c u x m).x (stepT c u x m).x.pc.toNat:=hl'.at_
     have p8:(stepT c u x m).x.pc=8:=by omega
     rw [p8] at h8
     have hlen:=h8.2.2
     rw [AbM p1,fJ,gQ] at hlen
     rw [hn,jE (by omega)]
    ·have hB:=(I.buf u x r h hS).2 p1 p2
     rw [MX hl (by omega) (by omega) (by omega) (by omega) (by omega) (by omega)]
     exact ⟨fun e=>by omega,fun _ _=>hB⟩
   ·exact ⟨fun e=>by omega,fun e1 e2=>by omega⟩
  ·exact I.buf u y r hy hS
 case sg =>
  intro u y hy hv
  rcases AG hy with ⟨rfl,rfl⟩|⟨hu,hy⟩
  ·rcases hv with hv|hv
   ·rcases AnT hl h0 hv with p|p
    ·rw [(r6_ p hv).1];exact ⟨I.g0,hmono⟩
    ·have:=I.sg u x h (.inl p)
     rw [(MP p).1];omega
   ·have p:=AnU hl h0 hv
    have:=I.sg u x h (.inl p)
    rw [(MP p).1];omega
  ·have:=I.sg u y hy hv
   omega
 case sE =>
  intro r s y z hy hz hv
  have hodd : ∀g:Int,GE g≠0:=fun g=>by unfold GE;omega
  -- who looked at a reader's word was let by it only if it is of that epoch,or a later one
  have hlet:r≠t → ∀y,l[r]? = some y→Rdg y→x.pc=25→H r<x.word→(r:Int)≤x.i→AjT c t x m=false:=fun hrt y hy hv hp hw hi=>by
   unfold AjT
   by_cases e:(r:Int)<x.i
   ·rw [(I.sE r t y x hy h hv).1 hp hw e];rfl
   ·have e2:x.i=(r:Int):=by omega
    obtain ⟨r1,r2,r3,r4⟩:=I.rep r y hy hv
    rw [e2,r4]
    have e3:letsW (GE y.epoch) x.word=false:=by
     unfold letsW
     refine fP ?_
     rintro (g|g)
     ·exact hodd _ g
     ·unfold GE at g;omega
    rw [e3,fP (by omega)]
    simp
  rcases AG hy with ⟨e1,e2⟩|⟨h1,hy1⟩
  ·subst e1 e2
   rcases AG hz with ⟨e3,e4⟩|⟨h2,hz1⟩
   ·subst e3 e4
    unfold Rdg at hv
    exact ⟨fun e=>by omega,fun e=>by omega⟩
   ·rcases XT hl h0 hv with ⟨g1,g2,g3⟩|⟨g1,g2,g3⟩
    ·rw [WV (by unfold Rdg at g1;omega)]
     exact I.sE r s x z h hz1 g1
    ·rw [o6_ g1]
     exact ⟨fun e e2=>by have:=(I.sg s z hz1 (.inl e)).2;omega,fun e=>(I.sg s z hz1 (.inr e)).2⟩
  ·rw [WU h1]
   rcases AG hz with ⟨e3,e4⟩|⟨h2,hz1⟩
   ·subst e3 e4
    refine ⟨fun p25 hw hi=>?_,fun p26=>?_⟩
    ·rcases AnT hl h0 p25 with p|p
     ·rw [(r6_ p p25).2] at hi
      omega
     ·obtain ⟨g1,g2,_,_⟩:=MP (t:=s) (m:=m) (c:=c) p
      obtain ⟨g3,g4⟩:=g2 p25
      rw [g3] at hi
      rw [g1] at hw
      rw [g4]
      exact hlet h1 y hy1 hv p hw (by omega)
    ·have p:=AnU hl h0 p26
     obtain ⟨g1,_,g2,_⟩:=MP (t:=s) (m:=m) (c:=c) p
     obtain ⟨g3,g4⟩:=g2 p26
     rw [g1]
     by_cases hw:x.word≤H r
     ·exact hw
     ·have hrt:=I.tlt hy1
      have:=hlet h1 y hy1 hv p (by omega) (by omega)
      rw [g4] at this;cases this
   ·exact I.sE r s y z hy1 hz1 hv
 case sG =>
  intro r s y z o hy hz hv hp hi ho hb
  rcases AG hy with ⟨e1,e2⟩|⟨h1,hy1⟩
  ·subst e1 e2
   rcases AG hz with ⟨e3,e4⟩|⟨h2,hz1⟩
   ·subst e3 e4
    unfold Vdg at hv
    omega
   ·obtain ⟨g1,g2,g3,g4⟩:=s4_ hl h0 hv
    rw [g3] at hb ⊢
    rcases g1 with g1|⟨_,g1⟩
    ·exact I.sG r s x z o h hz1 g1 hp hi ho hb
    ·exfalso
     have hbs:=(I.olS s z o hz1 ho).2
     have he:o.ref.index=rdI (ld m 0):=by rw [g1, ←hb];exact congrArg IW.index hbs
     exact I.prt s z hz1 _ (p1_ ho) he
  ·rcases AG hz with ⟨e3,e4⟩|⟨h2,hz1⟩
   ·subst e3 e4
    rcases AyO hl h0 hp with p|p|p
    ·rw [((MP (t:=s) (m:=m) (c:=c) p).2.2.2 hp).1] at hi
     omega
    ·rw [(AlP hl p hp).1] at hi
     omega
    ·obtain ⟨g1,g2,g3⟩:=AlQ p hp
     rw [g2] at hi
     rw [g3]
     rcases XA hl ho with ho|⟨g,_⟩
     ·by_cases e:(r:Int)<x.i
      ·exact iL _ (I.sG r s y x o hy1 h hv p e ho hb)
      ·have e2:x.i=(r:Int):=by omega
       rw [e2,I.vhz r y hy1 (by unfold Vdg at hv;omega)]
       exact iF _ (by simp)
     ·omega
   ·exact I.sG r s y z o hy1 hz1 hv hp hi ho hb
 case ep =>
  intro u y hy
  rcases AG hy with ⟨rfl,rfl⟩|⟨hu,hy⟩
  ·have hE:=I.ep u x h
   have hin:inE (stepT c u x m).x→ld (stepT c u x m).m (aEpo c u)=GE (stepT c u x m).x.epoch∧0≤(stepT c u x m).x.epoch∧(stepT c u x m).x.epoch≤ld (stepT c u x m).m 1:=fun hv=>by
    rcases ApV hl h0 hv with p|p|⟨p1,p2,p3,p4,p5,p6,p7,p8,p9⟩
    ·rw [K.epo_set (.inl p),GB hl (by omega) (by omega) (by omega) (by omega) (by omega) (by omega)]
     have:=hE.2 (.inr (.inl p))
     exact ⟨rfl,this.1,by omega⟩
    ·rw [K.epo_set (.inr p),GB hl (by omega) (by omega) (by omega) (by omega) (by omega) (by omega)]
     have:=hE.2 (.inr (.inr p))
     exact ⟨rfl,this.1,by omega⟩
    ·have e:(stepT c u x m).x.epoch=x.epoch:=by
      by_cases g:x.pc=22∨x.pc=23
      ·exact p9 g
      ·exact GB hl (by omega) (by omega) (by omega) (by omega) (by omega) (by omega)
     rw [e,K.epo K.ht (.inr (by omega))]
     have:=hE.2 (.inl p1)
     exact ⟨hE.1 p1,this.1,by omega⟩
   refine ⟨fun hv=>(hin hv).1,fun hv=>?_⟩
   rcases hv with hv|hv|hv
   ·exact (hin hv).2
   ·have p:x.pc=1:=by
     refine GI (t:=u) (m:=m) hl h0 fun k hk1 hk2 hp=>?_
     rw [hv] at hp
     have hz:=AS hk2
     repeat' (rcases hz with rfl|hz)
     all_goals first|omega|(simp [BY] at hp;done)
    have e:(stepT c u x m).x.epoch=ld m 1:=by rw [AE (k:=1) p];rfl
    rw [e]
    exact ⟨I.g0,hmono⟩
   ·have p:x.pc=30:=by
     refine GI (t:=u) (m:=m) hl h0 fun k hk1 hk2 hp=>?_
     rw [hv] at hp
     have hz:=AS hk2
     repeat' (rcases hz with rfl|hz)
     all_goals first|omega|(simp [BY] at hp;done)
    have e:(stepT c u x m).x.epoch=ld m 1:=by rw [AE (k:=30) p];rfl
    rw [e]
    exact ⟨I.g0,hmono⟩
  ·have hE:=I.ep u y hy
   refine ⟨fun hv=>?_,fun hv=>?_⟩
   ·rw [K.epo (I.tlt hy) (.inl hu)];exact hE.1 hv
   ·have:=hE.2 hv;omega
 case oc =>
  intro u y hy hv
  rcases AG hy with ⟨rfl,rfl⟩|⟨hu,hy⟩
  ·have hp:=AnO (t:=u) (m:=m) hl h0 (by omega) (by omega)
   have ho:=hl.own_at (by omega) (by omega)
   have hoi:=K.ho ho
   have hpool:=HM (t:=u) (m:=m) hl (by omega) (by omega) (by omega) (by omega) (by omega) (by omega)
   rw [hpool]
   rcases hp with ⟨p,p2⟩|⟨p,p2⟩|⟨p,p2⟩
   ·omega
   ·have ha:=hl.at_
    rw [p] at ha
    have e:(stepT c u x m).m.w=m.w.set (aNode c x.pool.own.index).toNat x.pool.own.tag:=by rw [AE (k:=13) p];rfl
    have hra:=JC f hl K.ht K.ho (.tag p)
    have hi:(stepT c u x m).x.i=x.i:=by rw [AE (k:=13) p];rfl
    refine ⟨?_,fun k _ hk=>?_⟩
    ·rw [GU e hra.1 (by have:=K.wl;omega) hra.1,fL rfl]
    ·have:=hk p2
     rw [hi,ha.2.2.2] at this
     omega
   ·obtain ⟨hi,hn,h15⟩:=s3_ (t:=u) (m:=m) (c:=c) p
    have e:(stepT c u x m).m.w=m.w.set (aNode c x.pool.own.index+1+x.i).toNat (x.nxt.getD x.i.toNat 0):=by rw [AE (k:=14) p];rfl
    have hra:=JC f hl K.ht K.ho (.recd p)
    have hin:=hl.i14 p
    obtain ⟨o1,o2⟩:=I.oc u x h (.inl p)
    have hnod:=EX f hoi.1 hoi.2 (gG 0) (by omega)
    refine ⟨?_,fun k hk hk2=>?_⟩
    ·rw [GU e hra.1 (by have:=K.wl;omega) (by omega),fM (by omega)]
     exact o1
    ·rw [hn]
     by_cases ek:(k:Int)=x.i
     ·rw [GU e hra.1 (by have:=K.wl;omega) (by omega),fL (by omega), ←ek,fW]
     ·have hlt:(k:Int)<x.i:=by
       rcases p2 with p2|p2
       ·have:=hk2 p2
        rw [hi] at this
        omega
       ·have:=h15 p2
        omega
      rw [GU e hra.1 (by have:=K.wl;omega) (by omega),fM (by omega)]
      exact o2 k hk fun _=>hlt
  ·have hyl:=I.loc u y hy
   have ho:=hyl.own_at (by omega) (by omega)
   have hr2:=(I.prg u y hy _ (EL ho)).1
   have hn:(x.pc≠13∧x.pc≠14)∨y.pool.own.index≠x.pool.own.index:=by
    by_cases hp:x.pc=13∨x.pc=14
    ·exact .inr (I.pdj u t y x hu hy h _ (EL ho) _ (EL (hl.own_at (by omega) (by omega))))
    ·exact .inl (by omega)
   obtain ⟨o1,o2⟩:=I.oc u y hy hv
   refine ⟨?_,fun k hk hk2=>?_⟩
   ·have:=K.node hr2.1 hr2.2 (gG 0) (by omega) hn
    rw [Int.add_zero] at this
    rw [this];exact o1
   ·have:=K.node hr2.1 hr2.2 (q:=1+(k:Int)) (by omega) (by omega) hn
    rw [←mH] at this
    rw [this];exact o2 k hk hk2
 case nx =>
  intro u y hy h1 h2
  rcases AG hy with ⟨rfl,rfl⟩|⟨hu,hy⟩
  ·rcases AnO hl h0 h1 h2 with ⟨p,p2⟩|⟨p,p2⟩|⟨p,p2⟩
   ·rw [MX hl (by omega) (by omega) (by omega) (by omega) (by omega) (by omega)]
    exact (AqZ p p2).1
   ·have:=I.nx u x h (by omega) (by omega)
    rw [AE (k:=13) p]
    exact this
   ·have:=I.nx u x h (by omega) (by omega)
    rw [MX hl (by omega) (by omega) (by omega) (by omega) (by omega) (by omega),(s3_ (t:=u) (m:=m) (c:=c) p).2.1]
    have e:(stepT c u x m).x.found=x.found:=by
     rw [AE (k:=14) p]
     show (s14 c u x m).x.found=_
     unfold s14
     dsimp only
     split<;>rfl
    rw [e];exact this
  ·exact I.nx u y hy h1 h2
end
end Go.Proofs.YtccefppppedgkaaGreat
namespace Go.Proofs.YtccefppppedgkaaGreat
section
variable {c:AB} {S:List Nm} {H:Nat→Int} {m:Mm} {l:List AC} {t:Nat} {x:AC}
theorem u2_ (hl:AQ c x) (hp:x.pc=0) (q:AT):plc (begun x q)=plc x:=by
 have ha:=hl.at_
 rw [hp] at ha
 rw [NV (ID (x:=begun x q) rfl),NV (ID ha.won)]
 rfl
theorem w_ (I:Inv c S H m l) (h:l[t]? = some x) (hp:x.pc=0) {q:AT} (hq:BR q=true) (hs:x.seq<c.seqs):Inv c S H m (l.set t (begun x q)):=by
 have hl:=I.loc t x h
 have ha:=hl.at_
 rw [hp] at ha
 have hpl:=u2_ hl hp q
 have hl':AQ c (begun x q):=⟨by show (0:Int)≤1;decide,⟨by have:=hl.seq;show 0≤x.seq+1;omega,by show x.seq+1≤_;omega⟩,fun _=>hq,⟨rfl,rfl,rfl⟩⟩
 have b1:(begun x q).pc=1:=rfl
 have b2:DN (begun x q)=false:=ID rfl
 have b3 : ¬Rdg (begun x q):=by unfold Rdg;rw [b1];omega
 have b4 : ¬Vdg (begun x q):=by unfold Vdg;rw [b1];omega
 have b5:DN x=false:=ID ha.won
 have b6 : ¬inE (begun x q):=by unfold inE;rw [b1];omega
 have hpt : ∀(u:Nat) y,(l.set t (begun x q))[u]? = some y → ∃y',l[u]? = some y'∧plc y=plc y'∧y.pool=y'.pool:=fun u y hy=>by
  rcases AG hy with ⟨rfl,rfl⟩|⟨_,hy⟩
  ·exact ⟨x,h,hpl,rfl⟩
  ·exact ⟨y,hy,rfl,rfl⟩
 have hlt:=(gZ.1 h).1
 have hset:(l.set t (begun x q))[t]? = some (begun x q):=by rw [gP,fL rfl,fL hlt]
 have hoth : ∀(u:Nat) y,u≠t→l[u]? = some y→(l.set t (begun x q))[u]? = some y:=fun u y hu hy=>by rw [gP,fM (Ne.symm hu)];exact hy
 constructor
 case wl=>exact I.wl
 case ll=>rw [iJ];exact I.ll
 case g0=>exact I.g0
 case loc =>
  intro u y hy
  rcases AG hy with ⟨rfl,rfl⟩|⟨_,hy⟩
  ·exact hl'
  ·exact I.loc u y hy
 case sok=>exact I.sok
 case snd=>exact I.snd
 case root=>exact I.root
 case rmx=>exact I.rmx
 case own =>
  intro u y hy
  obtain ⟨y',e1,e2,e3⟩:=hpt u y hy
  rw [e3];exact I.own u y' e1
 case prg =>
  intro u y hy
  obtain ⟨y',e1,e2,e3⟩:=hpt u y hy
  rw [e2];exact I.prg u y' e1
 case pnd =>
  intro u y hy
  obtain ⟨y',e1,e2,e3⟩:=hpt u y hy
  rw [e2];exact I.pnd u y' e1
 case pdj =>
  intro u v y z huv hy hz
  obtain ⟨y',e1,e2,e3⟩:=hpt u y hy
  obtain ⟨z',f1,f2,f3⟩:=hpt v z hz
  rw [e2,f2];exact I.pdj u v y' z' huv e1 f1
 case prt =>
  intro u y hy
  obtain ⟨y',e1,e2,e3⟩:=hpt u y hy
  rw [e2];exact I.prt u y' e1
 case olS =>
  intro u y o hy ho
  obtain ⟨y',e1,e2,e3⟩:=hpt u y hy
  rw [e3] at ho
  exact I.olS u y' o e1 ho
 case baS =>
  intro u y hy hv
  rcases AG hy with ⟨rfl,rfl⟩|⟨_,hy⟩
  ·rw [b2] at hv
   rcases hv with hv|hv
   ·exact absurd hv b3
   ·cases hv
  ·exact I.baS u y hy hv
 case cont =>
  intro w hw hh
  refine I.cont w hw ?_
  rcases hh with k|⟨u,y,k1,k2,k3⟩|⟨u,y,o,k1,k2,k3⟩
  ·exact .inl k
  ·rcases AG k1 with ⟨rfl,rfl⟩|⟨_,k1⟩
   ·rw [b2] at k2;cases k2
   ·exact .inr (.inl ⟨u,y,k1,k2,k3⟩)
  ·obtain ⟨y',e1,e2,e3⟩:=hpt u y k1
   rw [e3] at k2
   exact .inr (.inr ⟨u,y',o,e1,k2,k3⟩)
 case rep =>
  intro u y hy hv
  rcases AG hy with ⟨rfl,rfl⟩|⟨_,hy⟩
  ·exact absurd hv b3
  ·exact I.rep u y hy hv
 case viv =>
  intro u y hy hv
  rcases AG hy with ⟨rfl,rfl⟩|⟨hu,hy⟩
  ·exact absurd hv b4
  ·rcases I.viv u y hy hv with k|⟨r,z,k1,k2,k3⟩|⟨r,z,o,k1,k2,k3,k4⟩
   ·exact .inl k
   ·by_cases hr:r=t
    ·subst hr;rw [h] at k1;cases k1;rw [b5] at k2;cases k2
    ·exact .inr (.inl ⟨r,z,hoth r z hr k1,k2,k3⟩)
   ·by_cases hr:r=t
    ·subst hr;rw [h] at k1;cases k1
     exact .inr (.inr ⟨r,_,o,hset,k2,k3,k4⟩)
    ·exact .inr (.inr ⟨r,z,o,hoth r z hr k1,k2,k3,k4⟩)
 case vhz =>
  intro u y hy hv
  rcases AG hy with ⟨rfl,rfl⟩|⟨_,hy⟩
  ·rw [b1] at hv;omega
  ·exact I.vhz u y hy hv
 case buf =>
  intro u y r hy hS
  rcases AG hy with ⟨rfl,rfl⟩|⟨_,hy⟩
  ·rw [b1];exact ⟨fun e=>by omega,fun e _=>by omega⟩
  ·exact I.buf u y r hy hS
 case sg =>
  intro u y hy hv
  rcases AG hy with ⟨rfl,rfl⟩|⟨_,hy⟩
  ·rw [b1] at hv;omega
  ·exact I.sg u y hy hv
 case sE =>
  intro r s y z hy hz hv
  rcases AG hy with ⟨e1,e2⟩|⟨_,hy1⟩
  ·rw [e2] at hv;exact absurd hv b3
  ·rcases AG hz with ⟨e3,e4⟩|⟨_,hz1⟩
   ·rw [e4,b1];exact ⟨fun e=>by omega,fun e=>by omega⟩
   ·exact I.sE r s y z hy1 hz1 hv
 case sG =>
  intro r s y z o hy hz hv hp' hi ho hb
  rcases AG hy with ⟨e1,e2⟩|⟨_,hy1⟩
  ·rw [e2] at hv;exact absurd hv b4
  ·rcases AG hz with ⟨e3,e4⟩|⟨_,hz1⟩
   ·rw [e4,b1] at hp';omega
   ·exact I.sG r s y z o hy1 hz1 hv hp' hi ho hb
 case ep =>
  intro u y hy
  rcases AG hy with ⟨rfl,rfl⟩|⟨_,hy⟩
  ·refine ⟨fun hv=>absurd hv b6,fun hv=>?_⟩
   rw [b1] at hv
   rcases hv with hv|hv
   ·exact absurd hv b6
   ·omega
  ·exact I.ep u y hy
 case oc =>
  intro u y hy hv
  rcases AG hy with ⟨rfl,rfl⟩|⟨_,hy⟩
  ·rw [b1] at hv;omega
  ·exact I.oc u y hy hv
 case nx =>
  intro u y hy h1 h2
  rcases AG hy with ⟨rfl,rfl⟩|⟨_,hy⟩
  ·rw [b1] at h1;omega
  ·exact I.nx u y hy h1 h2
end
end Go.Proofs.YtccefppppedgkaaGreat
namespace Go.Proofs.YtccefppppedgkaaGreat
section
variable {c:AB} {S:List Nm} {H:Nat→Int} {m:Mm} {l:List AC} {t:Nat} {x:AC}
theorem n5_ (f:Okc c) (I:Inv c S H m l) (h:l[t]? = some x) (p15:x.pc=15) (hr:ld m 0=wdF x.base):Inv c (S++[(wdF x.pool.own,x.nxt)]) H (stepT c t x m).m (l.set t (stepT c t x m).x):=by
 have h0:x.pc≠0:=by omega
 have K:=I.ctx f h h0
 have hl:=K.h
 have hl':=VE (t:=t) (m:=m) f hl h0
 have hf:=f.facts
 have ha:=hl.at_
 rw [p15] at ha
 obtain ⟨⟨hW,ho⟩,hbl,hnl⟩:=ha
 have W0:=K.won p15 hr
 have W1:ld (stepT c t x m).m 1=ld m 1:=by rcases K.glob with e|⟨e,_⟩;exact e;omega
 have hx:=ME (t:=t) (c:=c) p15 hr
 have hown:=I.own t x h ho
 have hoi:=K.ho ho
 have hN:=(EJ f.ok).2
 have hgood:good x.pool.own.index x.pool.own.tag=true:=HG.2 ⟨hoi.1,by omega,hown.1,by omega⟩
 obtain ⟨n1,n2,n3⟩:=AlE hgood
 have nI:rdI (wdF x.pool.own)=x.pool.own.index:=n2
 have nT:rdT (wdF x.pool.own)=x.pool.own.tag:=n3
 have hpl:=(I.prg t x h _ (EL ho)).2
 have hnew : ∀r,(wdF x.pool.own,r) ∉ S:=fun r hm=>by
  have:=hpl _ hm (by show rdI (wdF x.pool.own)=_;exact nI)
  have e:rdT (wdF x.pool.own)≤x.pool.own.tag-1:=this
  omega
 have hinx:DN x=false:=ID hW.won
 have hplx:plc x=DY x.pool:=NV hinx
 have hbase:x.base=rdF (ld m 0):=by rw [hr];exact (I.baS t x h (.inl (by unfold Rdg;omega))).2
 have hbI:x.base.index=rdI (ld m 0):=congrArg IW.index hbase
 have hbT:x.base.tag=rdT (ld m 0):=congrArg IW.tag hbase
 obtain ⟨rr,hroot⟩:=I.root
 have hinf:DN (stepT c t x m).x=true:=by rw [hx];rfl
 have hpc:(stepT c t x m).x.pc=20:=by rw [hx]
 have hxb:(stepT c t x m).x.base=x.base:=by rw [hx]
 have hxo:(stepT c t x m).x.pool.old=x.pool.old:=by rw [hx];rfl
 have hplc:plc (stepT c t x m).x=DY (leaveP x.pool)++[(x.base.index,x.base.tag)]:=by
  unfold plc
  rw [hinf,hx]
  rfl
 have hlv : ∀p∈DY (leaveP x.pool),p∈plc x:=fun p hp=>by rw [hplx];exact (RK x.pool).1 p hp
 have hne : ∀p∈DY (leaveP x.pool),p.1≠x.pool.own.index:=w1_ ho (by rw [←hplx];exact I.pnd t x h)
 have hpm : ∀p∈plc (stepT c t x m).x,p∈DY (leaveP x.pool)∨p=(x.base.index,x.base.tag):=fun p hp=>by
  rw [hplc] at hp
  rcases gJ.1 hp with hp|hp
  ·exact .inl hp
  ·exact .inr (by simpa using hp)
 have hSm : ∀w:Nm,w∈S++[(wdF x.pool.own,x.nxt)]→w∈S∨w=(wdF x.pool.own,x.nxt):=fun w hw=>by
  rcases gJ.1 hw with hw|hw
  ·exact .inl hw
  ·exact .inr (by simpa using hw)
 have hlt:=(gZ.1 h).1
 have hset:(l.set t (stepT c t x m).x)[t]? = some (stepT c t x m).x:=by rw [gP,fL rfl,fL hlt]
 have hoth : ∀(u:Nat) y,u≠t→l[u]? = some y→(l.set t (stepT c t x m).x)[u]? = some y:=fun u y hu hy=>by rw [gP,fM (Ne.symm hu)];exact hy
 have hrp:=I.prt t x h _ (EL ho)
 constructor
 case wl=>exact K.wl'
 case ll=>rw [iJ];exact I.ll
 case g0=>rw [W1];exact I.g0
 case loc =>
  intro u y hy
  rcases AG hy with ⟨rfl,rfl⟩|⟨_,hy⟩
  ·exact hl'
  ·exact I.loc u y hy
 case sok =>
  intro w hw
  rcases hSm w hw with hw|rfl
  ·exact I.sok w hw
  ·refine ⟨n1,PK _ _,?_,?_,hnl⟩
   ·show 0≤rdI (wdF x.pool.own)∧_;rw [nI];exact hoi
   ·show rdT (wdF x.pool.own)≤_;rw [nT];exact hown.2
 case snd =>
  rw [iV,List.nodup_append]
  refine ⟨I.snd,by simp,fun a hA b hB=>?_⟩
  obtain ⟨w,hw,rfl⟩:=iP.1 hA
  simp at hB
  subst hB
  intro e
  exact hnew w.2 (by rw [←e];exact hw)
 case root=>rw [W0];exact ⟨x.nxt,by simp⟩
 case rmx =>
  intro w hw e
  rw [W0,nI] at e
  rw [W0,nT]
  rcases hSm w hw with hw|rfl
  ·have:=hpl w hw e
   dsimp only at this
   omega
  ·exact Int.le_of_eq nT
 case own =>
  intro u y hy hy0
  rcases AG hy with ⟨rfl,rfl⟩|⟨_,hy⟩
  ·rw [hx] at hy0;exact absurd rfl hy0
  ·exact I.own u y hy hy0
 case prg =>
  intro u y hy p hp
  rcases AG hy with ⟨rfl,rfl⟩|⟨hu,hy⟩
  ·rcases hpm p hp with hp|rfl
   ·obtain ⟨g1,g2⟩:=I.prg u x h p (hlv p hp)
    refine ⟨g1,fun w hw e=>?_⟩
    rcases hSm w hw with hw|rfl
    ·exact g2 w hw e
    ·exact absurd (e.symm.trans nI) (hne p hp)
   ·have g:=I.sok _ hroot
    refine ⟨by dsimp only;rw [hbI];exact g.2.2.1,fun w hw e=>?_⟩
    dsimp only at e ⊢
    rw [hbI] at e
    rw [hbT]
    rcases hSm w hw with hw|rfl
    ·exact I.rmx w hw e
    ·exact absurd (nI.symm.trans e) hrp
  ·obtain ⟨g1,g2⟩:=I.prg u y hy p hp
   refine ⟨g1,fun w hw e=>?_⟩
   rcases hSm w hw with hw|rfl
   ·exact g2 w hw e
   ·exact absurd (e.symm.trans nI) (I.pdj u t y x hu hy h p hp _ (EL ho))
 case pnd =>
  intro u y hy
  rcases AG hy with ⟨rfl,rfl⟩|⟨_,hy⟩
  ·rw [hplc,iV,List.nodup_append]
   refine ⟨(RK x.pool).2 (by rw [←hplx];exact I.pnd u x h),by simp,fun a hA b hB=>?_⟩
   obtain ⟨p,hp,rfl⟩:=iP.1 hA
   simp at hB
   subst hB
   rw [hbI]
   exact I.prt u x h p (hlv p hp)
  ·exact I.pnd u y hy
 case pdj =>
  have key : ∀(u:Nat) y,u≠t→l[u]? = some y → ∀p∈plc (stepT c t x m).x,∀q∈plc y,p.1≠q.1:=fun u y hu hy p hp q hq=>by
   rcases hpm p hp with hp|rfl
   ·exact I.pdj t u x y (Ne.symm hu) h hy p (hlv p hp) q hq
   ·dsimp only
    rw [hbI]
    exact fun e=>I.prt u y hy q hq e.symm
  intro u v y z huv hy hz p hp q hq
  rcases AG hy with ⟨e1,e2⟩|⟨h1,hy1⟩
  ·rcases AG hz with ⟨e3,e4⟩|⟨h2,hz1⟩
   ·exact absurd (e1.trans e3.symm) huv
   ·rw [e2] at hp;exact key v z h2 hz1 p hp q hq
  ·rcases AG hz with ⟨e3,e4⟩|⟨h2,hz1⟩
   ·rw [e4] at hq;exact fun e=>key u y h1 hy1 q hq p hp e.symm
   ·exact I.pdj u v y z huv hy1 hz1 p hp q hq
 case prt =>
  intro u y hy p hp
  rw [W0,nI]
  rcases AG hy with ⟨rfl,rfl⟩|⟨hu,hy⟩
  ·rcases hpm p hp with hp|rfl
   ·exact hne p hp
   ·dsimp only;rw [hbI];exact fun e=>hrp e.symm
  ·exact I.pdj u t y x hu hy h p hp _ (EL ho)
 case olS =>
  intro u y o hy hO
  rcases AG hy with ⟨rfl,rfl⟩|⟨_,hy⟩
  ·rw [hxo] at hO
   obtain ⟨⟨r,g1⟩,g2⟩:=I.olS u x o h hO
   exact ⟨⟨r,iL _ g1⟩,g2⟩
  ·obtain ⟨⟨r,g1⟩,g2⟩:=I.olS u y o hy hO
   exact ⟨⟨r,iL _ g1⟩,g2⟩
 case baS =>
  intro u y hy hv
  rcases AG hy with ⟨rfl,rfl⟩|⟨_,hy⟩
  ·rw [hxb]
   obtain ⟨⟨r,g1⟩,g2⟩:=I.baS u x h (.inl (by unfold Rdg;omega))
   exact ⟨⟨r,iL _ g1⟩,g2⟩
  ·obtain ⟨⟨r,g1⟩,g2⟩:=I.baS u y hy hv
   exact ⟨⟨r,iL _ g1⟩,g2⟩
 case cont =>
  intro w hw hh
  rcases hSm w hw with hw|rfl
  ·have hh':VS m l w.1:=by
    rcases hh with k|⟨u,y,k1,k2,k3⟩|⟨u,y,o,k1,k2,k3⟩
    ·exact absurd (show (wdF x.pool.own,w.2)∈S by rw [←W0,k];exact hw) (hnew w.2)
    ·rcases AG k1 with ⟨rfl,rfl⟩|⟨_,k1⟩
     ·rw [hxb] at k3;exact .inl (hr.trans k3)
     ·exact .inr (.inl ⟨u,y,k1,k2,k3⟩)
    ·rcases AG k1 with ⟨rfl,rfl⟩|⟨_,k1⟩
     ·rw [hxo] at k2;exact .inr (.inr ⟨u,x,o,h,k2,k3⟩)
     ·exact .inr (.inr ⟨u,y,o,k1,k2,k3⟩)
   exact UB I f h h0 hw hh' (I.cont w hw hh')
  ·obtain ⟨o1,o2⟩:=I.oc t x h (.inr p15)
   have hnp:(x.pc≠13∧x.pc≠14)∨x.pool.own.index≠x.pool.own.index:=.inl (by omega)
   unfold AaO
   dsimp only
   rw [nI,nT]
   refine ⟨?_,fun q hq=>?_⟩
   ·have:=K.node hoi.1 hoi.2 (gG 0) (by omega) hnp
    rw [Int.add_zero] at this
    rw [this];exact o1
   ·have:=K.node hoi.1 hoi.2 (q:=1+(q:Int)) (by omega) (by omega) hnp
    rw [←mH] at this
    rw [this];exact o2 q (by omega) (fun e=>by omega)
 case rep =>
  intro u y hy hv
  rcases AG hy with ⟨rfl,rfl⟩|⟨hu,hy⟩
  ·unfold Rdg at hv;omega
  ·rw [W1,K.epo (I.tlt hy) (.inl hu)]
   exact I.rep u y hy hv
 case viv =>
  intro u y hy hv
  rcases AG hy with ⟨rfl,rfl⟩|⟨hu,hy⟩
  ·unfold Vdg at hv;omega
  ·rcases I.viv u y hy hv with k|⟨r,z,k1,k2,k3⟩|⟨r,z,o,k1,k2,k3,k4⟩
   ·exact .inr (.inl ⟨t,_,hset,hinf,by rw [hxb, ←hr];exact k⟩)
   ·by_cases hrt:r=t
    ·subst hrt;rw [h] at k1;cases k1;rw [hinx] at k2;cases k2
    ·exact .inr (.inl ⟨r,z,hoth r z hrt k1,k2,k3⟩)
   ·by_cases hrt:r=t
    ·subst hrt;rw [h] at k1;cases k1
     exact .inr (.inr ⟨r,_,o,hset,by rw [hxo];exact k2,k3,k4⟩)
    ·exact .inr (.inr ⟨r,z,o,hoth r z hrt k1,k2,k3,k4⟩)
 case vhz =>
  intro u y hy hv
  rcases AG hy with ⟨rfl,rfl⟩|⟨hu,hy⟩
  ·omega
  ·rw [K.haz (I.tlt hy) (.inl hu)];exact I.vhz u y hy hv
 case buf =>
  intro u y r hy hS
  rcases AG hy with ⟨rfl,rfl⟩|⟨hu,hy⟩
  ·exact ⟨fun e=>by omega,fun e e2=>by omega⟩
  ·rcases hSm _ hS with hS|e
   ·exact I.buf u y r hy hS
   ·have e1:wdF y.base=wdF x.pool.own:=congrArg Prod.fst e
    have no : ¬Rdg y:=fun hv=>by
     obtain ⟨⟨r',g⟩,_⟩:=I.baS u y hy (.inl hv)
     rw [e1] at g
     exact hnew r' g
    unfold Rdg at no
    exact ⟨fun e=>by omega,fun e e2=>by omega⟩
 case sg =>
  intro u y hy hv
  rcases AG hy with ⟨rfl,rfl⟩|⟨_,hy⟩
  ·omega
  ·rw [W1];exact I.sg u y hy hv
 case sE =>
  intro r s y z hy hz hv
  rcases AG hy with ⟨e1,e2⟩|⟨_,hy1⟩
  ·rw [e2] at hv;unfold Rdg at hv;omega
  ·rcases AG hz with ⟨e3,e4⟩|⟨_,hz1⟩
   ·rw [e4];exact ⟨fun e=>by omega,fun e=>by omega⟩
   ·exact I.sE r s y z hy1 hz1 hv
 case sG =>
  intro r s y z o hy hz hv hp hi hO hb
  rcases AG hy with ⟨e1,e2⟩|⟨_,hy1⟩
  ·rw [e2] at hv;unfold Vdg at hv;omega
  ·rcases AG hz with ⟨e3,e4⟩|⟨_,hz1⟩
   ·rw [e4] at hp;omega
   ·exact I.sG r s y z o hy1 hz1 hv hp hi hO hb
 case ep =>
  intro u y hy
  rcases AG hy with ⟨rfl,rfl⟩|⟨hu,hy⟩
  ·have hE:=I.ep u x h
   have hi:inE x:=.inl ⟨by omega,by omega,hW.wai⟩
   have he:(stepT c u x m).x.epoch=x.epoch:=by rw [hx]
   rw [he,W1,K.epo K.ht (.inr (by omega))]
   exact ⟨fun _=>hE.1 hi,fun _=>hE.2 (.inl hi)⟩
  ·rw [W1,K.epo (I.tlt hy) (.inl hu)];exact I.ep u y hy
 case oc =>
  intro u y hy hv
  rcases AG hy with ⟨rfl,rfl⟩|⟨hu,hy⟩
  ·omega
  ·have hyl:=I.loc u y hy
   have hyo:=hyl.own_at (by omega) (by omega)
   have hr2:=(I.prg u y hy _ (EL hyo)).1
   have hn:(x.pc≠13∧x.pc≠14)∨y.pool.own.index≠x.pool.own.index:=.inl (by omega)
   obtain ⟨o1,o2⟩:=I.oc u y hy hv
   refine ⟨?_,fun k hk hk2=>?_⟩
   ·have:=K.node hr2.1 hr2.2 (gG 0) (by omega) hn
    rw [Int.add_zero] at this
    rw [this];exact o1
   ·have:=K.node hr2.1 hr2.2 (q:=1+(k:Int)) (by omega) (by omega) hn
    rw [←mH] at this
    rw [this];exact o2 k hk hk2
 case nx =>
  intro u y hy h1 h2
  rcases AG hy with ⟨rfl,rfl⟩|⟨hu,hy⟩
  ·omega
  ·exact I.nx u y hy h1 h2
end
end Go.Proofs.YtccefppppedgkaaGreat
namespace Go.Proofs.YtccefppppedgkaaGreat
theorem AeQ {a:Int} {q:Nat} {s:CN} (h:s∈newL a q) : ∃i:Nat,i<q∧s=TG a i:=by
 unfold newL at h
 obtain ⟨i,hi,rfl⟩:=iP.1 h
 exact ⟨i,kN.1 hi,rfl⟩
theorem Okc.kap {c:AB} (f:Okc c):chkL c=0:=by
 unfold chkL
 rw [fL f.ok,fM (by have:=f.big;omega)]
theorem Okc.nod {c:AB} (f:Okc c):nodesL c=1+c.threads*c.nodes∧1≤c.nodes∧c.nodes≤64:=by
 refine ⟨by unfold nodesL;rw [fL f.ok],?_⟩
 have h0:=f.ok
 unfold AY at h0
 simp only [fX,CB] at h0
 omega
theorem SB {c:AB} (f:Okc c) {t:Nat} (ht:(t:Int)<c.threads):poolL c t=newL (1+t*c.nodes) c.nodes.toNat:=by
 have hf:=f.facts
 obtain ⟨-,n1,n2⟩:=f.nod
 have hb:0≤(t:Int)*c.nodes:=jW (by omega) (by omega)
 have hb2:(t:Int)*c.nodes≤64*64:=mO (by omega) n2 (by omega) (by omega)
 unfold poolL
 rw [fL ⟨f.kap,by omega,ht⟩,DQ (x:=(t:Int)*c.nodes) (by omega),DQ (by omega)]
 congr 1
 omega
theorem AlV {c:AB} (f:Okc c) {t:Nat} (ht:(t:Int)<c.threads) {s:CN} (hs:s∈poolL c t) : ∃i:Nat,(i:Int)<c.nodes∧s=⟨1+t*c.nodes+i,0⟩:=by
 have hf:=f.facts
 obtain ⟨-,n1,n2⟩:=f.nod
 rw [SB f ht] at hs
 obtain ⟨i,hi,rfl⟩:=AeQ hs
 have hb:0≤(t:Int)*c.nodes:=jW (by omega) (by omega)
 have hb2:(t:Int)*c.nodes≤64*64:=mO (by omega) n2 (by omega) (by omega)
 refine ⟨i,by omega,?_⟩
 unfold TG
 rw [show IntKind.i64.wrap (1+(t:Int)*c.nodes+(i:Int))=1+(t:Int)*c.nodes+i from DQ (by omega)]
theorem k1_ {c:AB} (f:Okc c):((startO c).length:Int)=sizeC c:=by
 have h:=VD c
 by_cases k:c.kind=3
 ·have:=h.h f.ok k
  unfold GV at this
  simp only [fX,gE] at this
  exact this.1.2
 ·have:=h.x f.ok k
  unfold FK at this
  simp only [fX,gE] at this
  exact this.1.2
theorem JO {c:AB} (f:Okc c):((newM c).m.w.length:Int)=totL c∧ld (newM c).m 0=65537∧ld (newM c).m 1=0∧ld (newM c).m (aNode c 0)=1 ∧ ∀k:Nat,k<(startO c).length→ld (newM c).m (aNode c 0+1+k)=(startO c).getD k 0:=by
  obtain ⟨N,A,hS⟩:=AnS f.kap
  have hA:aNode c 0=(A:Int):=by
    have:=hS.at0
    have hf:=f.facts
    unfold atL at this
    unfold aNode
    omega
  have l0:(List.replicate N (0:Int)).length=N:=iM
  have r1:=hS.lo
  have r2:=hS.room
  have l1:(pokeL (List.replicate N (0:Int)) 0 [65537]).length=N:=by rw [HK bA,l0]
  have l2:(pokeL (pokeL (List.replicate N (0:Int)) 0 [65537]) A [1]).length=N:=by rw [HK bA,l1]
  have l3:(setupL c).length=N:=by unfold setupL;rw [hS.nat,hS.at0,HK (by rw [l2];omega),l2]
  have g : ∀i:Nat,(setupL c)[i]? = if i<A+1 then (if i<A then (if i<1 then some 65537 else if i<N then some 0 else none) else some 1) else if i<A+1+(startO c).length then (startO c)[i-(A+1)]? else if i<N then some 0 else none:=fun i=>by
    unfold setupL
    rw [hS.nat,hS.at0,NW (by rw [l2];omega),NW (by rw [l1];simp;omega),NW (by rw [l0];simp;omega)]
    simp only [gQ,mM]
    repeat' split
    all_goals first
      |rfl
      |(exfalso;omega)
      | (have e:i=0:=by omega
         subst e;rfl)
      | (have e:i-A=0:=by omega
         rw [e];rfl)
  have hw:(newM c).m.w=setupL c:=rfl
  refine ⟨by rw [hw,l3];exact hS.tot.symm,?_,?_,?_,fun k hk=>?_⟩
  · unfold ld;rw [hw,fK,g,fL (by simp),fL bA,fL (by simp)];rfl
  · unfold ld;rw [hw,fK,g,fL bA,fL bA,fM (by simp),fL bA];rfl
  · unfold ld;rw [hw,hA,fW,fK,g,fL (by omega),fM (by omega)];rfl
  · unfold ld
    rw [hw,hA,show ((A:Int)+1+(k:Int)).toNat=A+1+k by omega,fK,g,fM (by omega),fL (by omega),jH, ←fK]
theorem FW {c:AB} {t:Nat} {x:AC} (h:(newM c).tasks[t]? = some x):(t:Int)<c.threads∧x={ AK with pool:=⟨⟨0,0⟩,poolL c t,[],0⟩}:=by
 have h':((List.range (thrN c)).map (fun (t:Nat)=>({ AK with pool:=⟨⟨0,0⟩,poolL c t,[],0⟩}:AC)))[t]? = some x:=h
 rw [gI] at h'
 cases hr:(List.range (thrN c))[t]? with
 |none=>rw [hr] at h';cases h'
 |some a =>
  rw [hr] at h'
  have hlt:=(gZ.1 hr).1
  rw [lN] at hlt
  have:=jO hlt
  rw [this] at hr
  cases hr
  cases h'
  exact ⟨by unfold thrN at hlt;omega,rfl⟩
theorem o4_ (c:AB) (t:Nat):plc ({ AK with pool:=⟨⟨0,0⟩,poolL c t,[],0⟩}:AC)=(poolL c t).map fun s=>(s.index,s.tag):=by
 rw [NV (ID rfl)]
 unfold DY
 simp
theorem AjN {c:AB} (f:Okc c):Inv c [(65537,startO c)] (fun _=>0) (newM c).m (newM c).tasks:=by
 have hf:=f.facts
 obtain ⟨nd,n1,n2⟩:=f.nod
 obtain ⟨w1,w2,w3,w4,w5⟩:=JO f
 have e1:rdI 65537=0:=by decide
 have e2:rdT 65537=1:=by decide
 have hm : ∀w:Nm,w∈[((65537:Int),startO c)]→w=(65537,startO c):=fun w hw=>by simpa using hw
 have hp : ∀(t:Nat) x,(newM c).tasks[t]? = some x → ∀p∈plc x,∃i:Nat,(i:Int)<c.nodes∧p=(1+t*c.nodes+i,0)∧(t:Int)<c.threads:=fun t x h p hp=>by
  obtain ⟨h1,rfl⟩:=FW h
  rw [o4_] at hp
  obtain ⟨s,hs,rfl⟩:=iP.1 hp
  obtain ⟨i,hi,rfl⟩:=AlV f h1 hs
  exact ⟨i,hi,rfl,h1⟩
 have hpc : ∀(t:Nat) x,(newM c).tasks[t]? = some x→x.pc=0∧DN x=false∧x.pool.old=[]∧x.pool.own.tag=0:=fun t x h=>by
  obtain ⟨h1,rfl⟩:=FW h
  exact ⟨rfl,rfl,rfl,rfl⟩
 constructor
 case wl=>exact w1
 case ll =>
  show ((((List.range (thrN c)).map _).length:Nat):Int)=_
  rw [fH,lN]
  unfold thrN
  omega
 case g0=>rw [w3];decide
 case loc =>
  intro t x h
  obtain ⟨h1,rfl⟩:=FW h
  exact ⟨by show (0:Int)≤0;decide,⟨by show (0:Int)≤0;decide,by show (0:Int)≤_;omega⟩,fun e=>absurd rfl e,⟨rfl,rfl,rfl⟩⟩
 case sok =>
  intro w hw
  rw [hm w hw]
  refine ⟨by dsimp only;decide,by dsimp only;decide,?_,?_,k1_ f⟩
  ·dsimp only;rw [e1];have:=f.tot.2;omega
  ·dsimp only;rw [e2];omega
 case snd=>simp
 case root=>rw [w2];exact ⟨startO c,by simp⟩
 case rmx=>intro w hw _;rw [hm w hw,w2];exact gG _
 case own=>intro t x h h0;exact absurd (hpc t x h).2.2.2 h0
 case prg =>
  intro t x h p hp'
  obtain ⟨i,hi,rfl,ht⟩:=hp t x h p hp'
  have a1:0≤(t:Int)*c.nodes:=jW (by omega) (by omega)
  have a2:((t:Int)+1)*c.nodes≤c.threads*c.nodes:=iD (by omega) (by omega)
  rw [mV] at a2
  refine ⟨by dsimp only;omega,fun w hw e=>?_⟩
  rw [hm w hw] at e
  dsimp only at e
  omega
 case pnd =>
  intro t x h
  obtain ⟨h1,rfl⟩:=FW h
  rw [o4_,SB f h1]
  have a1:0≤(t:Int)*c.nodes:=jW (by omega) (by omega)
  have a2:(t:Int)*c.nodes≤64*64:=mO (by omega) n2 (by omega) (by omega)
  unfold newL
  rw [mF,mF]
  unfold List.Nodup
  rw [List.pairwise_map]
  refine List.Pairwise.imp_of_mem (R:=fun a b:Nat=>a≠b) (fun {a b} ha hb hab e=>?_) List.nodup_range
  have ha:=kN.1 ha
  have hb:=kN.1 hb
  have e':IntKind.i64.wrap (1+(t:Int)*c.nodes+(a:Int))=IntKind.i64.wrap (1+(t:Int)*c.nodes+(b:Int)):=e
  rw [show IntKind.i64.wrap (1+(t:Int)*c.nodes+(a:Int))=1+(t:Int)*c.nodes+a from DQ (by omega),show IntKind.i64.wrap (1+(t:Int)*c.nodes+(b:Int))=1+(t:Int)*c.nodes+b from DQ (by omega)] at e'
  omega
 case pdj =>
  intro t u x y htu h k p hp1 q hq1
  obtain ⟨i,hi,rfl,ht⟩:=hp t x h p hp1
  obtain ⟨j,hj,rfl,hu⟩:=hp u y k q hq1
  dsimp only
  rcases Nat.lt_or_gt_of_ne htu with g|g
  ·have:=iD (show (t:Int)+1≤u by omega) (show 0≤c.nodes by omega)
   rw [mV] at this
   omega
  ·have:=iD (show (u:Int)+1≤t by omega) (show 0≤c.nodes by omega)
   rw [mV] at this
   omega
 case prt =>
  intro t x h p hp1
  obtain ⟨i,hi,rfl,ht⟩:=hp t x h p hp1
  have a1:0≤(t:Int)*c.nodes:=jW (by omega) (by omega)
  rw [w2,e1]
  dsimp only
  omega
 case olS=>intro t x o h ho;rw [(hpc t x h).2.2.1] at ho;cases ho
 case baS =>
  intro t x h hv
  obtain ⟨p0,p1,_⟩:=hpc t x h
  rw [p1] at hv
  rcases hv with hv|hv
  ·unfold Rdg at hv;omega
  ·cases hv
 case cont =>
  intro w hw _
  rw [hm w hw]
  unfold AaO
  dsimp only
  rw [e1,e2]
  exact ⟨w4,w5⟩
 case rep=>intro t x h hv;have:=(hpc t x h).1;unfold Rdg at hv;omega
 case viv=>intro t x h hv;have:=(hpc t x h).1;unfold Vdg at hv;omega
 case vhz=>intro t x h hv;have:=(hpc t x h).1;omega
 case buf=>intro t x r h _;have:=(hpc t x h).1;exact ⟨fun e=>by omega,fun e _=>by omega⟩
 case sg=>intro t x h hv;have:=(hpc t x h).1;omega
 case sE=>intro r s x y h _ hv;have:=(hpc r x h).1;unfold Rdg at hv;omega
 case sG=>intro r s x y o h _ hv;have:=(hpc r x h).1;unfold Vdg at hv;omega
 case ep =>
  intro t x h
  have:=(hpc t x h).1
  refine ⟨fun hv=>?_,fun hv=>?_⟩
  ·unfold inE at hv;omega
  ·unfold inE at hv;omega
 case oc=>intro t x h hv;have:=(hpc t x h).1;omega
 case nx=>intro t x h h1 _;have:=(hpc t x h).1;omega
end Go.Proofs.YtccefppppedgkaaGreat
namespace Go.Proofs.YtccefppppedgkaaGreat
def TM (c:AB) (u:List DA) (k:Nat):List Int:=(u.take k).foldl (fun r tn=>allO c r tn.ops) (startO c)
theorem AgC {c:AB} {u:List DA} {v:DA} {k:Nat} (h:k≤u.length):TM c (u++[v]) k=TM c u k:=by
 unfold TM;rw [List.take_append_of_le_length h]
theorem z_ {c:AB} {u:List DA} {v:DA}:TM c (u++[v]) (u.length+1)=allO c (TM c u u.length) v.ops:=by
 unfold TM
 rw [jE (by simp),jT,jM];rfl
structure Chn (c:AB) (S:List Nm) (m:Mm) (u:List DA):Prop where
 rcs:S.map (·.2)=(List.range (u.length+1)).map (TM c u)
 last:(ld m 0,TM c u u.length)∈S
theorem e1_ {c:AB} {t:Nat} {x:AC} {m:Mm} (hl:AQ c x) (hr : ¬(x.pc=15∧ld m 0=wdF x.base)):(stepT c t x m).won=false:=by
 obtain ⟨k,hk1,hk2, -⟩:=BE hl
 rw [AE hk1]
 have hz:=AS hk2
 repeat' (rcases hz with rfl|hz)
 all_goals first
  |rfl
  |(show (s15 c t x m).won=_;unfold s15;rw [fM (fun e=>hr ⟨hk1,e⟩)])
  |(simp only [AO,s22,s23,s28,s29,ownedT];(repeat' split)<;>rfl)
theorem p5_ {c:AB} {t:Nat} {x:AC} {m:Mm} (p:x.pc=15) (hr:ld m 0=wdF x.base):(stepT c t x m).won=true∧(stepT c t x m).ops=x.found:=by
 rw [AE (k:=15) p]
 show (s15 c t x m).won=_∧(s15 c t x m).ops=_
 unfold s15
 rw [fL hr]
 exact ⟨rfl,rfl⟩
end Go.Proofs.YtccefppppedgkaaGreat
namespace Go.Proofs.YtccefppppedgkaaGreat
section
variable {c:AB} {S:List Nm} {H:Nat→Int} {m:Mm} {l:List AC} {t:Nat} {x:AC}
theorem AiF (I:Inv c S H m l) (h:l[t]? = some x) (p:x.pc=7) : ∃r,(wdF x.base,r)∈S∧x.buf++[ld m (aNode c x.base.index+1+x.i)]=r.take (x.buf.length+1)∧(r.length:Int)=sizeC c:=by
 have hl:=I.loc t x h
 have hv:Vdg x:=by unfold Vdg;omega
 obtain ⟨⟨r,hS⟩,hbs⟩:=I.baS t x h (.inl (Rdg.of_v hv))
 have hB:=(I.buf t x r h hS).1 p
 have ha:=hl.at_
 rw [p] at ha
 obtain ⟨-,i0,i1,i2⟩:=ha
 have hz:(r.length:Int)=sizeC c:=(I.sok _ hS).2.2.2.2
 have hC:=I.cont _ hS (I.viv t x h hv).held
 have hi:rdI (wdF x.base)=x.base.index:=(congrArg IW.index hbs).symm
 have hlt:x.buf.length<r.length:=by omega
 have hw:=hC.2 x.buf.length hlt
 rw [hi,i2] at hw
 refine ⟨r,hS,?_,hz⟩
 rw [hw,iG, ←hB,ZgE hlt,fK,ZgE hlt]
 rfl
def Whole (c:AB) (S:List Nm) (l:List AC):Prop:=∀(t:Nat) x,l[t]? = some x→(x.buf.length:Int)=sizeC c→x.buf∈S.map (·.2)
theorem k8_ (I:Inv c S H m l) (h:l[t]? = some x) (h0:x.pc≠0) (hz:1≤sizeC c) (W:Whole c S l):Whole c S (l.set t (stepT c t x m).x):=by
 intro u y hy hlen
 rcases AG hy with ⟨rfl,rfl⟩|⟨_,hy⟩
 ·rcases AiE (t:=u) (m:=m) (I.loc u x h) h0 with e|e|⟨p,e⟩
  ·rw [e] at hlen ⊢;exact W u x h hlen
  ·rw [e] at hlen;simp at hlen;omega
  ·obtain ⟨r,g1,g2,g3⟩:=AiF I h p
   rw [e,g2] at hlen ⊢
   rw [jE (by rw [fQ] at hlen;omega)]
   exact iP.2 ⟨_,g1,rfl⟩
 ·exact W u y hy hlen
end
end Go.Proofs.YtccefppppedgkaaGreat
namespace Go.Proofs.YtccefppppedgkaaGreat
def EO (tags:Int) (st:Option (Int × List Int)) (a:HR):Option (Int × List Int) :=
 match st with
 |none=>none
 |some (last,seen) =>
  if a.addr≠0∨a.kind≠3∨a.ok=false then (if a.addr=0∧a.kind≠1∧a.kind≠3 then none else some (last,seen))
  else if JM a.now=true∧a.want=last∧rdT a.now≤tags∧a.now ∉ seen then some (a.now,seen++[a.now]) else none
def FA (tags:Int) (log:List HR):Option (Int × List Int):=log.foldl (EO tags) (some (65537,[65537]))
theorem OJ (tags:Int) (log:List HR) (e:HR):FA tags (log++[e])=EO tags (FA tags log) e:=by unfold FA;rw [jM];rfl
section
variable {c:AB} {S:List Nm} {H:Nat→Int} {m:Mm} {l:List AC} {t:Nat} {x:AC}
theorem AoV (k:Ctx c t x m) {a:Int} (w:AA c t x a) (h15:x.pc≠15):a≠0:=by
 have hf:=k.f.facts
 have ht:=k.ht
 have hown:3≤x.pc→x.pc≤19→3+c.threads*9≤aNode c x.pool.own.index:=fun a b=>by
  have:=k.ho (k.h.own_at a b)
  have:=EX k.f this.1 this.2 (gG 0) (by omega)
  omega
 have h14:=fun hp=>(k.h.i14 hp)
 have h12:=fun hp=>(k.h.i12 hp)
 have h17:=fun hp=>(k.h.j17 hp)
 cases w with
 |root hp=>exact absurd hp h15
 |glob hp=>omega
 |phase hp=>omega
 |epo hp=>unfold aEpo;omega
 |haz hp=>unfold aHaz;omega
 |arg hp=>have:=h17 hp;unfold EP;omega
 |seq hp=>unfold aSeq;omega
 |mail hp=>have:=h12 hp;unfold aMail;omega
 |mine hp=>unfold aMail;omega
 |tag hp=>have:=hown (by omega) (by omega);omega
 |recd hp=>have:=hown (by omega) (by omega);have:=h14 hp;omega
theorem z6_ (f:Okc c) (I:Inv c S H m l) (h:l[t]? = some x) (h0:x.pc≠0) (hr : ¬(x.pc=15∧ld m 0=wdF x.base)) (T:FA c.tags m.log=some (ld m 0,S.map (·.1))):FA c.tags (stepT c t x m).m.log=some (ld (stepT c t x m).m 0,S.map (·.1)):=by
 have K:=I.ctx f h h0
 obtain ⟨e,e1,e2,e3,e4⟩:=GC (t:=t) (m:=m) K.h h0
 rw [e1,OJ,T,K.root hr]
 unfold EO
 dsimp only
 by_cases p:x.pc=15
 ·obtain ⟨k1,k2,k3,k4,k5⟩:=e4 p
  have ho:e.ok=false:=by
   cases ho:e.ok
   ·rfl
   ·exact absurd ⟨p,k4.1 ho⟩ hr
  rw [fL (.inr (.inr ho)),fM (by omega)]
 ·rcases e3 with e3|⟨e3,e5⟩
  ·rw [fL (.inr (.inl (by omega))),fM (by omega)]
  ·have:=AoV K e3 p
   rw [fL (.inl this),fM (by omega)]
theorem AgR (f:Okc c) (I:Inv c S H m l) (h:l[t]? = some x) (p:x.pc=15) (hr:ld m 0=wdF x.base) (T:FA c.tags m.log=some (ld m 0,S.map (·.1))):FA c.tags (stepT c t x m).m.log=some (ld (stepT c t x m).m 0,(S++[(wdF x.pool.own,x.nxt)]).map (·.1)):=by
 have h0:x.pc≠0:=by omega
 have K:=I.ctx f h h0
 have J:=n5_ f I h p hr
 obtain ⟨e,e1,e2,e3,e4⟩:=GC (t:=t) (m:=m) K.h h0
 obtain ⟨k1,k2,k3,k4,k5⟩:=e4 p
 rw [e1,OJ,T,K.won p hr]
 unfold EO
 dsimp only
 have hn:=k5 hr
 obtain ⟨s1, -, -,s4, -⟩:=J.sok (wdF x.pool.own,x.nxt) (by simp)
 have hnd:=J.snd
 rw [iV,List.nodup_append] at hnd
 have hni:wdF x.pool.own ∉ S.map (·.1):=fun hm=>hnd.2.2 _ hm _ (by simp) rfl
 rw [fM (by rw [k1,k2,k4.2 hr];simp),fL ⟨by rw [hn];exact s1,by rw [k3,hr],by rw [hn];exact s4,by rw [hn];exact hni⟩,hn,iV]
 rfl
end
end Go.Proofs.YtccefppppedgkaaGreat
namespace Go.Proofs.YtccefppppedgkaaGreat
structure All (c:AB) (S:List Nm) (H:Nat→Int) (m:Mm) (l:List AC) (u:List DA):Prop where
 inv:Inv c S H m l
 chn:Chn c S m u
 whl:Whole c S l
 tag:FA c.tags m.log=some (ld m 0,S.map (·.1))
theorem f1_ {c:AB} {S:List Nm} {l:List AC} {t:Nat} {x:AC} (hz:1≤sizeC c) (W:Whole c S l) (q:AT):Whole c S (l.set t (begun x q)):=by
 intro u y hy hlen
 rcases AG hy with ⟨rfl,rfl⟩|⟨_,hy⟩
 ·have:(begun x q).buf=[]:=rfl
  rw [this] at hlen
  simp at hlen;omega
 ·exact W u y hy hlen
theorem k7_ {c:AB} {S:List Nm} {l:List AC} (w:Nm) (W:Whole c S l):Whole c (S++[w]) l:=fun t x h hl=>by
 rw [iV]
 exact iL _ (W t x h hl)
theorem VW {c:AB} (f:Okc c):All c [(65537,startO c)] (fun _=>0) (newM c).m (newM c).tasks (newM c).turns where
 inv:=AjN f
 chn:=⟨rfl,by rw [(JO f).2.1];exact iT.2 rfl⟩
 whl:=fun t x h hl=>by
  obtain ⟨_,rfl⟩:=FW h
  have hf:=f.facts
  have e:(({ AK with pool:=⟨⟨0,0⟩,poolL c t,[],0⟩}:AC).buf).length=0:=rfl
  rw [e] at hl
  omega
 tag:=by rw [(JO f).2.1];rfl
theorem LN {c:AB} (f:Okc c) {S:List Nm} {H:Nat→Int} {m:Mm} {l:List AC} {u:List DA} {t:Nat} {x:AC} {z:Int} (A:All c S H m l u) (hx:l[t]? = some x) (h0:x.pc≠0) :
  ∃S' H',All c S' H' (stepT c t x m).m (l.set t (stepT c t x m).x) (if (stepT c t x m).won then u++[⟨z,t,(stepT c t x m).ops⟩] else u) ∧ ∃S2,S'=S++S2:=by
 obtain ⟨I,C,W,T⟩:=A
 have hf:=f.facts
 have hl:=I.loc t x hx
 have hW:=k8_ (m:=m) I hx h0 (by omega) W
 by_cases hr:x.pc=15∧ld m 0=wdF x.base
 ·obtain ⟨p,hr⟩:=hr
  obtain ⟨w1,w2⟩:=p5_ (t:=t) (m:=m) (c:=c) p hr
  have J:=n5_ f I hx p hr
  have W0:=(I.ctx f hx h0).won p hr
  rw [w1,w2,fL rfl]
  have hbuf:x.buf=TM c u u.length:=(I.buf t x _ hx (by rw [←hr];exact C.last)).2 (by omega) (by omega)
  have hn:x.nxt=TM c (u++[⟨z,t,x.found⟩]) (u.length+1):=by rw [z_, ←hbuf];exact I.nx t x hx (by omega) (by omega)
  refine ⟨_,_,⟨J,⟨?_,?_⟩,k7_ _ hW,AgR f I hx p hr T⟩,_,rfl⟩
  ·rw [iV,C.rcs,fJ,gQ,kD (n:=u.length+1),iV]
   congr 1
   ·refine jU fun k hk=>?_
    exact (AgC (by have:=kN.1 hk;omega)).symm
   ·show [x.nxt]=[_];rw [hn]
  ·rw [W0,fJ,gQ, ←hn]
   exact iF _ (iT.2 rfl)
 ·rw [e1_ hl hr]
  have W0:=(I.ctx f hx h0).root hr
  exact ⟨S,_,⟨AdM f I hx h0 hr,⟨C.rcs,by rw [W0];exact C.last⟩,hW,z6_ f I hx h0 hr T⟩,[],by simp⟩
theorem HC {c:AB} (f:Okc c) {S:List Nm} {H:Nat→Int} {m:Mm} {l:List AC} {u:List DA} {t:Nat} {x:AC} {q:AT} (A:All c S H m l u) (hx:l[t]? = some x) (hp:x.pc=0) (hq:BR q=true) (hs:x.seq<c.seqs):All c S H m (l.set t (begun x q)) u :=
 ⟨w_ A.inv hx hp hq hs,A.chn,f1_ (by have:=f.facts;omega) A.whl q,A.tag⟩
theorem AoX {c:AB} (f:Okc c) {s:Mc} (h : ∃S H,All c S H s.m s.tasks s.turns) (e:EG) : ∃S H,All c S H (doM c s e).m (doM c s e).tasks (doM c s e).turns:=by
 refine WF (K:=fun m l u=>∃S H,All c S H m l u) (fun m l u t q h ht hp hq hs=>?_) (fun m l u t z h ht h0=>?_) h e
 all_goals
  obtain ⟨S,H,A⟩:=h
  have hlt:t<l.length:=by have:=A.inv.ll;unfold thrN at ht;omega
  have hx:l[t]? = some (l.getD t AK):=by rw [fK,ZgE hlt];rfl
 ·exact ⟨S,H,HC f A hx hp hq hs⟩
 ·obtain ⟨S',H',B,_⟩:=LN (z:=z) f A hx h0
  exact ⟨S',H',B⟩
theorem AbB {c:AB} (f:Okc c) (L:List EG) : ∃S H,All c S H (playM c L).m (playM c L).tasks (playM c L).turns :=
 AfH (J:=fun s=>∃S H,All c S H s.m s.tasks s.turns) ⟨_,_,VW f⟩ (fun _ e h=>AoX f h e) L
end Go.Proofs.YtccefppppedgkaaGreat
namespace Go.Proofs.YtccefppppedgkaaGreat
structure t5_ (o:DOp):Prop where
 t:0≤o.thread∧o.thread<64
 s:0≤o.seq∧o.seq≤1048575
 p:0≤o.phase∧o.phase≤4294967295
 f:BR o.req=true
structure RgM (m:Mm):Prop where
 wu:okU m.w
 gl:ld m 1≤m.log.length
 cl:m.cnt.length≤64
 cr : ∀x∈m.cnt,0≤x∧x≤m.log.length
structure RgT (B:Nat) (x:AC):Prop where
 ep:0≤x.epoch∧x.epoch≤B
 wd:0≤x.word∧x.word≤18446744073709551615
 ws:x.pc=9∨x.pc=10→x.word≤1048575
 bf:okU x.buf
 nx:okU x.nxt
 ar:okU x.args
 se:okU x.seen
 rd:0≤x.round∧x.round≤B+1
 tr:0≤x.tri∧x.tri≤B
 po:x.pool.free.length+x.pool.old.length≤64+B
 fo : ∀o∈x.found,t5_ o
 fl:x.found.length≤B
variable {x:AC}
theorem RgT.mono {A B:Nat} (h:RgT A x) (hB:A≤B):RgT B x where
 ep:=by have:=h.ep;omega
 wd:=h.wd
 ws:=h.ws
 bf:=h.bf
 nx:=h.nx
 ar:=h.ar
 se:=h.se
 rd:=by have:=h.rd;omega
 tr:=by have:=h.tr;omega
 po:=by have:=h.po;omega
 fo:=h.fo
 fl:=by have:=h.fl;omega
theorem U0:(0:Int)≤0∧(0:Int)≤18446744073709551615:=by decide
variable {p:Int}
theorem BK {Q:Prop} (h:p≠9∧p≠10):p=9∨p=10→Q:=fun g=>by omega
theorem WW {c:Prop} [Decidable c] {a b:Int} {Q:Prop} (ha:a≠9∧a≠10) (hb:b≠9∧b≠10):(if c then a else b)=9∨(if c then a else b)=10→Q:=fun g=>by split at g<;>omega
theorem DK:okU []:=fun w h=>by cases h
theorem XE {l ws:List Int} (h:okU l) (a:Nat) (hw:okU ws):okU (pokeL l a ws):=fun v hv=>by
 unfold pokeL at hv
 simp only [gJ] at hv
 rcases hv with (hv|hv)|hv
 ·exact h v (iH hv)
 ·exact hw v hv
 ·exact h v (gW hv)
variable {w:Int}
theorem EK {l:List Int} (h:okU l) (hw:0≤w∧w≤18446744073709551615):okU (l++[w]):=fun v hv=>by
 rcases gJ.1 hv with h'|h'
 ·exact h v h'
 ·rw [iT.1 h'];exact hw
theorem WZ {l:List Int} (h:okU l) {i:Nat} (hw:0≤w∧w≤18446744073709551615):okU (l.set i w):=fun v hv=>by
 rcases iN hv with h'|h'
 ·exact h v h'
 ·rw [h'];exact hw
theorem RV {l:List Int} (h:okU l) (i:Nat):0≤l.getD i 0∧l.getD i 0≤18446744073709551615:=by
 rw [fK]
 cases hx:l[i]? with
 |none=>exact ⟨gG _,by decide⟩
 |some a=>exact h a (fI hx)
variable {m:Mm}
theorem PM (h:okU m.w) (a:Int):0≤ld m a∧ld m a≤18446744073709551615:=RV h _
theorem s8_ (r:IW):0≤wdF r∧wdF r≤18446744073709551615:=by have:=PK r.index r.tag;unfold wdF;omega
variable {c:AB}
theorem AaZ (ops:List DOp) : ∀ {l:List Int},okU l→okU (allO c l ops):=by
 induction ops with
 |nil=>exact fun h=>h
 |cons o ops ih=>exact fun h=>ih (l:=FD c _ o.thread o.seq o.req) (YK h _ _ _)
theorem AjD {q:AT} (h:BR q=true):0≤RD q∧RD q≤18446744073709551615:=by
 unfold BR at h
 simp only [fX,CB,gE] at h
 unfold RD IX
 split<;>omega
theorem AmM {k:BD} (h:CO k=true):0≤wordK k∧wordK k≤18446744073709551615:=by
 unfold CO at h
 simp only [fX,CB,gE] at h
 unfold wordK
 omega
theorem AbO {q:AT} (hp:0≤p∧p≤4294967295):okU (HW q p):=by
 unfold HW
 split
 ·rename_i h
  have h1:=AjD h
  have h2:okU (q.cases.map wordK):=fun w hw=>by
   obtain ⟨k,hk,rfl⟩:=iP.1 hw
   unfold BR at h
   simp only [fX,gY] at h
   exact AmM (h.2 k hk)
  intro w hw
  unfold HD at hw
  rcases iE.1 hw with rfl|hw
  ·exact h1
  ·exact EK (YA h2) (by omega) w hw
 ·exact DK
theorem z8_ (last:Int) (p:BV):(takeP last p).free.length+(takeP last p).old.length≤p.free.length+p.old.length:=by
 unfold takeP
 have:=VG (last:=last) (i:=p.own.index) (t:=p.own.tag) p.free p.spent
 dsimp only
 omega
theorem backP_len (p:BV) (pr:CD→Bool):(backP p pr).free.length+(backP p pr).old.length=p.free.length+p.old.length:=UR pr p.free p.old
variable {B:Nat}
theorem q8_ (h:RgT B x):RgT B (takeT c x):=by
 obtain ⟨p,sc,r,e,hp⟩:=HP c x
 rw [e]
 exact ⟨h.ep,h.wd,fun g=>by dsimp only at g;omega,h.bf,h.nx,h.ar,h.se,h.rd,h.tr,iZ (z8_ _ _) h.po,h.fo,h.fl⟩
theorem XL (h:RgT B x):RgT (B+1) (failT c x):=by
 obtain ⟨p,e,hp⟩:=JD c x
 rw [e]
 have k:=h.mono (jY B)
 have:=h.rd
 exact ⟨k.ep,k.wd,fun g=>by dsimp only at g;omega,k.bf,k.nx,k.ar,k.se,⟨by dsimp only;omega,by dsimp only;omega⟩,k.tr,k.po,fun o ho=>(by cases ho),fO _⟩
theorem IF (h:RgT B x):RgT B (nextSeqT c x):=by
 obtain ⟨i,tr,p,e,hp⟩:=JI c x
 rw [e]
 refine ⟨h.ep,h.wd,fun g=>by dsimp only at g;omega,h.bf,h.nx,h.ar,h.se,h.rd,?_,h.po,h.fo,h.fl⟩
 dsimp only
 rcases hp with ⟨_,_,rfl,_⟩|⟨_,_,rfl,_⟩
 ·exact ⟨gG _,by omega⟩
 ·exact h.tr
variable {t:Nat}
theorem AfW {c:AB} (h:RgT B x) (ht:t<64) (hs:0≤x.seq∧x.seq≤1048575) (hf:BR x.req=true):(∀o∈GW t x,t5_ o)∧(GW t x).length≤B+1:=by
 unfold GW
 have h1 : ∀o∈isort KF x.found,t5_ o:=fun o ho=>h.fo o (ED.1 ho)
 have h2:=CC (key:=KF) x.found
 have h3:=h.fl
 split
 ·exact ⟨h1,by omega⟩
 ·refine ⟨fun o ho=>?_,by rw [fJ,h2,gQ];omega⟩
  rcases gJ.1 ho with ho|ho
  ·exact h1 o ho
  ·rw [iT.1 ho]
   exact ⟨⟨by dsimp only;omega,by dsimp only;omega⟩,hs,⟨gG _,(by decide:(0:Int)≤4294967295)⟩,hf⟩
theorem XM (h:RgT (B+1) x) (ht:t<64) (hs:0≤x.seq∧x.seq≤1048575) (hf:BR x.req=true) (hl:x.found.length≤B):RgT (B+1) (nextMailT c t x):=by
 obtain ⟨i,p,f,n,e,hp⟩:=FL c t x
 rw [e]
 have ho:=AfW (c:=c) h ht hs hf
 have hl2:(GW t x).length≤B+1:=by
  unfold GW
  have h2:=CC (key:=KF) x.found
  split
  ·omega
  ·rw [fJ,h2,gQ];omega
 rcases hp with ⟨_,_,_,rfl,rfl⟩|⟨_,_,_,rfl,rfl⟩
 ·exact ⟨h.ep,h.wd,fun g=>by dsimp only at g;omega,h.bf,h.nx,h.ar,h.se,h.rd,⟨gG _,by dsimp only;omega⟩,h.po,h.fo,h.fl⟩
 ·exact ⟨h.ep,h.wd,fun g=>by dsimp only at g;omega,h.bf,AaZ _ h.bf,h.ar,h.se,h.rd,⟨gG _,by dsimp only;omega⟩,h.po,ho.1,hl2⟩
theorem c7_ (h:RgT B x) (ht:t<64) (hs:0≤x.seq∧x.seq≤1048575) (hf:BR x.req=true):RgT (B+1) (nextMailT c t x):=by
 obtain ⟨i,p,f,n,e,hp⟩:=FL c t x
 rw [e]
 have k:=h.mono (jY B)
 have ho:=AfW (c:=c) h ht hs hf
 rcases hp with ⟨_,_,_,rfl,rfl⟩|⟨_,_,_,rfl,rfl⟩
 ·exact ⟨k.ep,k.wd,fun g=>by dsimp only at g;omega,k.bf,k.nx,k.ar,k.se,k.rd,⟨gG _,by dsimp only;omega⟩,k.po,k.fo,k.fl⟩
 ·exact ⟨k.ep,k.wd,fun g=>by dsimp only at g;omega,k.bf,AaZ _ k.bf,k.ar,k.se,k.rd,⟨gG _,by dsimp only;omega⟩,k.po,ho.1,ho.2⟩
theorem LB (h:RgT B x):RgT B (scannedT c x):=by
 rcases EF c x with ⟨_,e⟩|⟨_,e⟩
 ·rw [e];exact q8_ h
 ·rw [e];exact ⟨h.ep,h.wd,fun g=>by dsimp only at g;omega,h.bf,h.nx,h.ar,h.se,h.rd,h.tr,h.po,h.fo,h.fl⟩
theorem PW {p:BV} (hp:p.free.length+p.old.length≤64+B) (e : ∃pc seq req res wa,(pc=0∨pc=1∨pc=29)∧x={ AK with pc:=pc,seq:=seq,req:=req,res:=res,waits:=wa,pool:=p }):RgT B x:=by
 obtain ⟨pc,seq,req,res,wa,hq,rfl⟩:=e
 exact ⟨⟨gG _,by show (0:Int)≤_;omega⟩,U0,BK (p:=pc) (by omega),DK,DK,DK,DK,⟨gG _,by show (0:Int)≤_;omega⟩,⟨gG _,by show (0:Int)≤_;omega⟩,hp,fun o ho=>(by cases ho),fO _⟩
theorem VA (h:RgT B x):RgT B (finishT x):=PW h.po ⟨_,_,_,_,_,.inl rfl,rfl⟩
theorem c8_ (h:RgT B x):RgT B (ownedT c x m).x:=by
 rcases JX c x m with ⟨_,e⟩|⟨_,_,e⟩|⟨_,_,e⟩
 ·rw [e];exact VA h
 ·rw [e];exact ⟨h.ep,h.wd,fun g=>by dsimp only at g;omega,h.bf,h.nx,h.ar,h.se,h.rd,h.tr,h.po,h.fo,h.fl⟩
 ·rw [e];exact ⟨h.ep,h.wd,fun g=>by dsimp only at g;omega,h.bf,h.nx,h.ar,h.se,h.rd,h.tr,h.po,h.fo,h.fl⟩
theorem x7_ {l:List Int} (h:okU l) {q:AT} (e:XG l=some (q,p)):BR q=true∧0≤p∧p≤4294967295:=by
 match l,h,e with
 | [],_,e=>cases e
 | [_],_,e=>cases e
 | [_,_],_,e=>cases e
 | [_,_,_],_,e=>cases e
 | [_,_,_,_],_,e=>cases e
 | [a,b,d,g,p'],h,e =>
  unfold XG at e
  cases hm:KG a b d g p'
  ·simp [hm] at e
  ·simp only [hm,jL,lZ,Prod.mk.injEq] at e
   obtain ⟨rfl,rfl⟩:=e
   have h1:=h a (by simp)
   have h2:=h b (by simp)
   have h3:=h d (by simp)
   have h4:=h g (by simp)
   have h5:=h p' (by simp)
   have hm':=hm
   unfold KG at hm'
   simp only [fX,gE] at hm'
   exact ⟨((TY h1 h2 h3 h4 hm'.1.1 hm'.1.2.2.2.1).2 hm).1,h5.1,hm'.1.1⟩
 |_::_::_::_::_::_::_,_,e=>cases e
theorem AmP (x:Int):0≤NB x∧NB x≤18446744073709551615:=by unfold NB;omega
theorem AlJ (f:Okc c) (h:AQ c x) (ht:t<64) (hm:RgM m) (hB:m.log.length=B) (r:RgT B x):RgT (B+1) (stepT c t x m).x:=by
 have hf:=f.facts
 have k:=r.mono (jY B)
 have hg:=hm.gl
 rw [hB] at hg
 have hu:=PM hm.wu
 have hs:0≤x.seq∧x.seq≤1048575:=by have:=h.seq;omega
 have htr:=r.tr
 have hpo:=r.po
 have hfl:=r.fl
 obtain ⟨q,p,hk2,hat⟩:=BE h
 rw [AE p]
 have hfit:q≠0→BR x.req=true:=fun hq=>h.fit (by omega)
 have hz:=AS hk2
 repeat' (rcases hz with rfl|hz)
 ·exact k
 ·exact ⟨⟨(hu 1).1,(by omega:ld m 1≤((B+1:Nat):Int))⟩,k.wd,(BK (p:=2) (by decide)),k.bf,k.nx,k.ar,k.se,k.rd,k.tr,k.po,k.fo,k.fl⟩
 ·exact q8_ k
 ·exact ⟨k.ep,k.wd,(BK (p:=4) (by decide)),k.bf,k.nx,k.ar,k.se,k.rd,k.tr,k.po,k.fo,k.fl⟩
 ·exact ⟨k.ep,k.wd,(BK (p:=5) (by decide)),k.bf,k.nx,k.ar,k.se,k.rd,k.tr,k.po,k.fo,k.fl⟩
 ·change RgT _ (s5 c t x m).x;unfold s5;dsimp only
  split
  ·exact ⟨k.ep,k.wd,(BK (p:=6) (by decide)),k.bf,k.nx,k.ar,k.se,k.rd,k.tr,k.po,k.fo,k.fl⟩
  ·exact XL r
 ·change RgT _ (s6 c t x m).x;unfold s6;dsimp only
  split
  ·exact ⟨k.ep,k.wd,(BK (p:=7) (by decide)),DK,k.nx,k.ar,k.se,k.rd,k.tr,k.po,k.fo,k.fl⟩
  ·exact XL r
 ·change RgT _ (s7 c t x m).x;unfold s7 BA;dsimp only
  split
  ·exact ⟨k.ep,k.wd,(BK (p:=x.pc) (by omega)),EK k.bf (hu _),k.nx,k.ar,k.se,k.rd,k.tr,k.po,k.fo,k.fl⟩
  ·split
   ·exact ⟨k.ep,k.wd,(BK (p:=20) (by decide)),EK k.bf (hu _),k.nx,k.ar,k.se,k.rd,k.tr,k.po,fun o ho=>(by cases ho),fO _⟩
   ·exact ⟨k.ep,k.wd,(BK (p:=8) (by decide)),EK k.bf (hu _),k.nx,k.ar,k.se,k.rd,k.tr,k.po,fun o ho=>(by cases ho),fO _⟩
 ·change RgT _ (s8 c t x m).x;unfold s8;dsimp only
  split
  ·exact IF ⟨k.ep,hu _,(BK (p:=x.pc) (by omega)),k.bf,k.nx,k.ar,k.se,k.rd,k.tr,k.po,k.fo,k.fl⟩
  ·rename_i hc
   exact ⟨k.ep,hu _,(fun _=>(by omega:ld m (aSeq c x.i)≤1048575)),k.bf,k.nx,DK,k.se,k.rd,k.tr,k.po,k.fo,k.fl⟩
 ·change RgT _ (s9 c t x m).x;unfold s9;dsimp only
  have hw:=k.ws (.inl p)
  split
  ·exact ⟨k.ep,k.wd,(fun _=>hw),k.bf,k.nx,EK k.ar (hu _),k.se,k.rd,k.tr,k.po,k.fo,k.fl⟩
  ·exact ⟨k.ep,k.wd,(fun _=>hw),k.bf,k.nx,EK k.ar (hu _),k.se,k.rd,k.tr,k.po,k.fo,k.fl⟩
 ·change RgT _ (s10 c t x m).x;unfold s10 CE;dsimp only
  have hws:=k.ws (.inr p)
  split
  ·rename_i qq pp e
   split
   ·rename_i ew
    refine IF ⟨k.ep,k.wd,fun _=>hws,k.bf,k.nx,k.ar,k.se,k.rd,k.tr,k.po,fun o ho=>?_,by dsimp only;rw [fJ,gQ];omega⟩
    rcases gJ.1 ho with ho|ho
    ·exact k.fo o ho
    ·rw [iT.1 ho]
     obtain ⟨q1,q2⟩:=x7_ r.ar e
     have hi:=hat.2.1
     have hw:=r.wd
     exact ⟨⟨by dsimp only;omega,by dsimp only;omega⟩,⟨hw.1,hws⟩,q2,q1⟩
   ·exact IF k
  ·exact IF k
 ·change RgT _ (s11 c t x m).x;unfold s11;dsimp only
  split
  ·exact ⟨k.ep,hu _,(BK (p:=12) (by decide)),k.bf,k.nx,k.ar,k.se,k.rd,k.tr,k.po,k.fo,k.fl⟩
  ·exact c7_ ⟨r.ep,hu _,(BK (p:=x.pc) (by omega)),r.bf,r.nx,r.ar,r.se,r.rd,r.tr,r.po,r.fo,r.fl⟩ ht hs (hfit (by decide))
 ·change RgT _ (s12 c t x m).x;unfold s12;dsimp only
  have hT:RgT (B+1) { x with tri:=x.tri+1 }:=⟨k.ep,k.wd,(BK (p:=x.pc) (by omega)),k.bf,k.nx,k.ar,k.se,k.rd,⟨(by omega:0≤x.tri+1),(by omega:x.tri+1≤((B+1:Nat):Int))⟩,k.po,k.fo,k.fl⟩
  split
  ·exact XM hT ht hs (hfit (by decide)) hfl
  ·exact ⟨k.ep,k.wd,(BK (p:=11) (by decide)),k.bf,k.nx,k.ar,k.se,k.rd,⟨(by omega:0≤x.tri+1),(by omega:x.tri+1≤((B+1:Nat):Int))⟩,k.po,k.fo,k.fl⟩
 ·exact ⟨k.ep,k.wd,(BK (p:=14) (by decide)),k.bf,k.nx,k.ar,k.se,k.rd,k.tr,k.po,k.fo,k.fl⟩
 ·change RgT _ (s14 c t x m).x;unfold s14;dsimp only
  split
  ·exact ⟨k.ep,k.wd,(BK (p:=15) (by decide)),k.bf,k.nx,k.ar,k.se,k.rd,k.tr,k.po,k.fo,k.fl⟩
  ·exact ⟨k.ep,k.wd,(BK (p:=x.pc) (by omega)),k.bf,k.nx,k.ar,k.se,k.rd,k.tr,k.po,k.fo,k.fl⟩
 ·change RgT _ (s15 c t x m).x;unfold s15
  have hpl:(leaveP x.pool).free.length+(leaveP x.pool).old.length≤64+(B+1):=k.po
  split
  ·exact ⟨k.ep,k.wd,(BK (p:=20) (by decide)),k.bf,k.nx,k.ar,k.se,k.rd,k.tr,hpl,k.fo,k.fl⟩
  ·exact XL r
 ·exact ⟨k.ep,k.wd,(BK (p:=17) (by decide)),k.bf,k.nx,AbO (by omega),k.se,k.rd,k.tr,k.po,k.fo,k.fl⟩
 ·change RgT _ (s17 c t x m).x;unfold s17;dsimp only
  split
  ·exact ⟨k.ep,k.wd,(BK (p:=18) (by decide)),k.bf,k.nx,k.ar,k.se,k.rd,k.tr,k.po,k.fo,k.fl⟩
  ·exact ⟨k.ep,k.wd,(BK (p:=x.pc) (by omega)),k.bf,k.nx,k.ar,k.se,k.rd,k.tr,k.po,k.fo,k.fl⟩
 ·exact ⟨k.ep,k.wd,(BK (p:=3) (by decide)),k.bf,k.nx,k.ar,k.se,⟨(by decide:(0:Int)≤1),(by omega:(1:Int)≤((B+1:Nat):Int)+1)⟩,k.tr,k.po,k.fo,k.fl⟩
 ·exact ⟨k.ep,k.wd,(BK (p:=20) (by decide)),k.bf,k.nx,k.ar,k.se,k.rd,k.tr,k.po,k.fo,k.fl⟩
 ·change RgT _ (s20 c t x m).x;unfold s20;dsimp only
  exact ⟨k.ep,k.wd,(WW (a:=21) (b:=22) (by decide) (by decide)),k.bf,k.nx,k.ar,k.se,k.rd,⟨gG _,(by omega:(0:Int)≤((B+1:Nat):Int))⟩,k.po,k.fo,k.fl⟩
 ·change RgT _ (s21 c t x m).x;unfold s21;dsimp only
  exact ⟨k.ep,k.wd,(BK (p:=22) (by decide)),k.bf,k.nx,k.ar,k.se,k.rd,k.tr,(by show x.pool.free.length+(x.pool.old++[_]).length≤_;rw [fJ,gQ];omega),k.fo,k.fl⟩
 ·change RgT _ (s22 c t x m).x;unfold s22;dsimp only
  split
  ·exact ⟨k.ep,hu _,(BK (p:=23) (by decide)),k.bf,k.nx,k.ar,k.se,k.rd,k.tr,k.po,k.fo,k.fl⟩
  ·exact c8_ ⟨k.ep,hu _,(BK (p:=x.pc) (by omega)),k.bf,k.nx,k.ar,k.se,k.rd,k.tr,k.po,k.fo,k.fl⟩
 ·change RgT _ (s23 c t x m).x;unfold s23;dsimp only
  split
  ·exact c8_ ⟨k.ep,k.wd,(BK (p:=22) (by decide)),k.bf,k.nx,k.ar,k.se,k.rd,⟨(by omega:0≤x.tri+1),(by omega:x.tri+1≤((B+1:Nat):Int))⟩,k.po,k.fo,k.fl⟩
  ·exact ⟨k.ep,k.wd,(BK (p:=22) (by decide)),k.bf,k.nx,k.ar,k.se,k.rd,⟨(by omega:0≤x.tri+1),(by omega:x.tri+1≤((B+1:Nat):Int))⟩,k.po,k.fo,k.fl⟩
 ·change RgT _ (s24 c t x m).x;unfold s24;dsimp only
  split
  ·exact ⟨k.ep,hu _,(BK (p:=25) (by decide)),k.bf,k.nx,k.ar,k.se,k.rd,k.tr,eI,k.fo,k.fl⟩
  ·exact LB ⟨k.ep,hu _,(BK (p:=25) (by decide)),k.bf,k.nx,k.ar,k.se,k.rd,k.tr,eI,k.fo,k.fl⟩
 ·change RgT _ (s25 c t x m).x;unfold s25;dsimp only
  split
  ·exact ⟨k.ep,k.wd,(BK (p:=x.pc) (by omega)),k.bf,k.nx,k.ar,k.se,k.rd,k.tr,k.po,k.fo,k.fl⟩
  ·exact ⟨k.ep,k.wd,(WW (a:=26) (b:=27) (by decide) (by decide)),k.bf,k.nx,k.ar,DK,k.rd,k.tr,k.po,k.fo,k.fl⟩
 ·change RgT _ (s26 c t x m).x;unfold s26;dsimp only
  have hpo2:(if ld m 1=x.word then backP x.pool (prE (x.word+1)) else x.pool).free.length+(if ld m 1=x.word then backP x.pool (prE (x.word+1)) else x.pool).old.length≤64+(B+1):=by
   split
   ·rw [backP_len];omega
   ·omega
  generalize (if ld m 1=x.word then backP x.pool (prE (x.word+1)) else x.pool)=pl at *
  split
  ·exact ⟨k.ep,k.wd,(BK (p:=27) (by decide)),k.bf,k.nx,k.ar,k.se,k.rd,k.tr,hpo2,k.fo,k.fl⟩
  ·exact LB ⟨k.ep,k.wd,(BK (p:=27) (by decide)),k.bf,k.nx,k.ar,k.se,k.rd,k.tr,hpo2,k.fo,k.fl⟩
 ·change RgT _ (s27 c t x m).x;unfold s27;dsimp only
  split
  ·exact LB ⟨k.ep,k.wd,(BK (p:=x.pc) (by omega)),k.bf,k.nx,k.ar,EK k.se (hu _),k.rd,k.tr,eI,k.fo,k.fl⟩
  ·exact ⟨k.ep,k.wd,(BK (p:=x.pc) (by omega)),k.bf,k.nx,k.ar,EK k.se (hu _),k.rd,k.tr,k.po,k.fo,k.fl⟩
 ·change RgT _ (s28 c t x m).x;unfold s28;dsimp only
  split
  ·exact PW k.po ⟨_,_,_,_,_,.inr (.inr rfl),rfl⟩
  ·exact VA k
 ·change RgT _ (s29 c t x m).x;unfold s29;dsimp only
  split
  ·exact PW k.po ⟨_,_,_,_,_,.inl rfl,rfl⟩
  ·exact ⟨k.ep,k.wd,(BK (p:=30) (by decide)),k.bf,k.nx,k.ar,k.se,k.rd,k.tr,k.po,k.fo,k.fl⟩
 ·exact ⟨⟨(hu 1).1,(by omega:ld m 1≤((B+1:Nat):Int))⟩,k.wd,(BK (p:=31) (by decide)),k.bf,k.nx,k.ar,k.se,k.rd,k.tr,k.po,k.fo,k.fl⟩
 ·exact ⟨k.ep,k.wd,(BK (p:=32) (by decide)),k.bf,k.nx,k.ar,k.se,k.rd,k.tr,k.po,k.fo,k.fl⟩
 ·exact ⟨k.ep,k.wd,(BK (p:=33) (by decide)),k.bf,k.nx,k.ar,k.se,k.rd,k.tr,k.po,k.fo,k.fl⟩
 ·exact ⟨k.ep,k.wd,(BK (p:=34) (by decide)),k.bf,k.nx,k.ar,k.se,k.rd,k.tr,k.po,k.fo,k.fl⟩
 ·change RgT _ (s34 c t x m).x;unfold s34;dsimp only
  exact ⟨k.ep,U0,(WW (a:=35) (b:=37) (by decide) (by decide)),k.bf,k.nx,k.ar,k.se,k.rd,k.tr,k.po,k.fo,k.fl⟩
 ·change RgT _ (s35 c t x m).x;unfold s35;dsimp only
  exact ⟨k.ep,k.wd,(WW (a:=36) (b:=37) (by decide) (by decide)),k.bf,k.nx,k.ar,k.se,k.rd,k.tr,k.po,k.fo,k.fl⟩
 ·exact ⟨k.ep,hu _,(BK (p:=37) (by decide)),k.bf,k.nx,k.ar,k.se,k.rd,k.tr,k.po,k.fo,k.fl⟩
 ·exact ⟨k.ep,k.wd,(BK (p:=38) (by decide)),k.bf,k.nx,k.ar,k.se,k.rd,k.tr,k.po,k.fo,k.fl⟩
 ·change RgT _ (s38 c t x m).x;unfold s38;dsimp only
  split
  ·exact ⟨k.ep,k.wd,(BK (p:=22) (by decide)),k.bf,k.nx,k.ar,k.se,k.rd,⟨gG _,(by omega:(0:Int)≤((B+1:Nat):Int))⟩,k.po,k.fo,k.fl⟩
  ·exact ⟨k.ep,k.wd,(BK (p:=29) (by decide)),k.bf,k.nx,k.ar,k.se,k.rd,k.tr,k.po,k.fo,k.fl⟩
variable {a v:Int}
theorem EV (h:okU m.w) (hv:0≤v∧v≤18446744073709551615):okU (stM m t a v).w:=WZ h hv
theorem NU (h:okU m.w) (hv:0≤v∧v≤18446744073709551615):okU (swM m t a w v).w:=by
 rw [PJ]
 split
 ·exact WZ h hv
 ·exact h
theorem AcI {g:Int} (h:0≤g∧g≤B) (hB:B≤1048576):0≤GE g∧GE g≤18446744073709551615:=by unfold GE;omega
theorem AfY (f:Okc c) (h:AQ c x) (hw:okU m.w) (hB20:B≤1048576) (r:RgT B x) (ho:x.pool.own.tag≠0→1≤x.pool.own.tag∧x.pool.own.tag≤c.tags) (hg2:x.pc=25∨x.pc=26→0≤x.word∧x.word≤B):okU (stepT c t x m).m.w:=by
 have hf:=f.facts
 have hs:0≤x.seq∧x.seq≤1048575:=by have:=h.seq;omega
 have z0:(0:Int)≤0∧(0:Int)≤18446744073709551615:=by decide
 obtain ⟨q,p,hk2,hat⟩:=BE h
 rw [AE p]
 have hz:=AS hk2
 repeat' (rcases hz with rfl|hz)
 ·exact hw
 ·exact hw
 ·exact EV hw (AcI r.ep hB20)
 ·exact hw
 ·exact EV hw (s8_ _)
 ·exact hw
 ·exact hw
 ·exact hw
 ·exact hw
 ·exact hw
 ·exact hw
 ·exact hw
 ·exact NU hw (PQ r.bf _)
 ·exact EV hw (by have:=ho (by exact hat.1.2);omega)
 ·exact EV hw (RV r.nx _)
 ·change okU (s15 c t x m).m.w;unfold s15;split
  ·exact NU hw (s8_ _)
  ·exact NU hw (s8_ _)
 ·exact WZ hw (AmP _)
 ·exact EV hw (RV r.ar _)
 ·exact EV hw (by omega)
 ·exact hw
 ·exact EV hw z0
 ·exact hw
 ·change okU (s22 c t x m).m.w;unfold s22;dsimp only;split
  ·exact hw
  ·rw [EZ];exact hw
 ·change okU (s23 c t x m).m.w;unfold s23;dsimp only;split
  ·rw [EZ];exact NU hw (QH _)
  ·exact NU hw (QH _)
 ·exact hw
 ·exact hw
 ·have hi:=hg2 (by omega)
  exact NU hw (show 0≤x.word+1∧x.word+1≤18446744073709551615 by omega)
 ·exact hw
 ·change okU (s28 c t x m).m.w;unfold s28;split
  ·exact EV hw z0
  ·exact EV hw z0
 ·change okU (s29 c t x m).m.w;unfold s29;dsimp only;split
  ·exact hw
  ·exact hw
 ·exact hw
 ·exact EV hw (AcI r.ep hB20)
 ·exact hw
 ·exact EV hw (s8_ _)
 ·exact hw
 ·exact hw
 ·exact hw
 ·exact EV hw z0
 ·exact EV hw z0
theorem MY (m:Mm) (t:Nat) (a w v:Int):(swM m t a w v).cnt=cntM m.cnt t:=by unfold swM;split<;>rfl
theorem e_ (h:AQ c x) (h0:x.pc≠0):(stepT c t x m).m.cnt=cntM m.cnt t:=by
 obtain ⟨q,p,hk2,hat⟩:=BE h
 rw [AE p]
 have hz:=AS hk2
 repeat' (rcases hz with rfl|hz)
 ·exact absurd p h0
 ·rfl
 ·rfl
 ·rfl
 ·rfl
 ·rfl
 ·rfl
 ·rfl
 ·rfl
 ·rfl
 ·rfl
 ·rfl
 ·exact MY _ _ _ _ _
 ·rfl
 ·rfl
 ·change (s15 c t x m).m.cnt=_;unfold s15;split<;>exact MY _ _ _ _ _
 ·rfl
 ·rfl
 ·rfl
 ·rfl
 ·rfl
 ·rfl
 ·change (s22 c t x m).m.cnt=_;unfold s22;dsimp only;split
  ·rfl
  ·rw [EZ];rfl
 ·change (s23 c t x m).m.cnt=_;unfold s23;dsimp only;split
  ·rw [EZ];exact MY _ _ _ _ _
  ·exact MY _ _ _ _ _
 ·rfl
 ·rfl
 ·exact MY _ _ _ _ _
 ·rfl
 ·change (s28 c t x m).m.cnt=_;unfold s28;dsimp only;split<;>rfl
 ·change (s29 c t x m).m.cnt=_;unfold s29;dsimp only;split<;>rfl
 ·rfl
 ·rfl
 ·rfl
 ·rfl
 ·rfl
 ·rfl
 ·rfl
 ·rfl
 ·rfl
theorem AiJ {l:List Int} (h : ∀x∈l,0≤x∧x≤(B:Int)) : ∀x∈cntM l t,0≤x∧x≤((B+1:Nat):Int):=by
 intro x hx
 unfold cntM at hx
 dsimp only at hx
 have hz : ∀y∈l++List.replicate (t+1-l.length) (0:Int),0≤y∧y≤(B:Int):=fun y hy=>by
  rcases gJ.1 hy with hy|hy
  ·exact h y hy
  ·rw [iS hy];omega
 generalize l++List.replicate (t+1-l.length) (0:Int)=z at *
 rcases iN hx with hx|rfl
 ·have:=hz x hx;omega
 ·rw [fK]
  cases hy:z[t]? with
  |none=>dsimp only [Option.getD];omega
  |some y=>have:=hz y (fI hy);dsimp only [Option.getD];omega
theorem AiI {l:List Int} (h:l.length≤64) (ht:t<64):(cntM l t).length≤64:=by
 unfold cntM
 dsimp only
 rw [iJ,fJ,iM];omega
theorem AfX (f:Okc c) (k:Ctx c t x m) (ht:t<64) (hm:RgM m) (hB:m.log.length=B) (hB20:B≤1048576) (r:RgT B x) (ho:x.pool.own.tag≠0→1≤x.pool.own.tag∧x.pool.own.tag≤c.tags) (hg2:x.pc=25∨x.pc=26→0≤x.word∧x.word≤ld m 1):RgM (stepT c t x m).m∧(stepT c t x m).m.log.length=B+1:=by
 obtain ⟨e,h1, -⟩:=GC (t:=t) (m:=m) k.h k.h0
 have hg:=hm.gl
 have hl:(stepT c t x m).m.log.length=B+1:=by rw [h1,fJ,hB];rfl
 refine ⟨⟨AfY f k.h hm.wu hB20 r ho (fun g=>by have:=hg2 g;omega),?_,?_,?_⟩,hl⟩
 ·rw [hl]
  rcases k.glob with g|⟨_,g1,g2⟩
  ·rw [g];omega
  ·rw [g2];omega
 ·rw [e_ k.h k.h0];exact AiI hm.cl ht
 ·rw [e_ k.h k.h0,hl, ←hB];exact AiJ hm.cr
def Lrg (m:Mm) (l:List AC):Prop:=m.log.length≤1048576→RgM m ∧ ∀(t:Nat) x,l[t]? = some x→RgT m.log.length x
theorem NN {l:List AC} (L:Lrg m l) (hx:l[t]? = some x) (q:AT):Lrg m (l.set t (begun x q)):=fun h=>by
 obtain ⟨a,b⟩:=L h
 refine ⟨a,fun u y hy=>?_⟩
 rcases AG hy with ⟨rfl,rfl⟩|⟨_,hy⟩
 ·have r:=b u x hx
  exact ⟨⟨gG _,by show (0:Int)≤_;omega⟩,U0,BK (p:=1) (by decide),DK,DK,DK,DK,⟨(by decide:(0:Int)≤1),by show (1:Int)≤_;omega⟩,⟨gG _,by show (0:Int)≤_;omega⟩,r.po,fun o ho=>(by cases ho),fO _⟩
 ·exact b u y hy
theorem ZX (f:Okc c) {S:List Nm} {H:Nat→Int} {l:List AC} (I:Inv c S H m l) (L:Lrg m l) (hx:l[t]? = some x) (h0:x.pc≠0):Lrg (stepT c t x m).m (l.set t (stepT c t x m).x):=fun h=>by
 have k:=I.ctx f hx h0
 obtain ⟨e,h1, -⟩:=GC (t:=t) (m:=m) k.h k.h0
 have hl:(stepT c t x m).m.log.length=m.log.length+1:=by rw [h1,fJ];rfl
 have ht:t<64:=by have:=k.ht;have:=f.facts;omega
 obtain ⟨a,b⟩:=L (by omega)
 have r:=b t x hx
 obtain ⟨g1,g2⟩:=AfX f k ht a rfl (by omega) r (I.own t x hx) (I.sg t x hx)
 refine ⟨g1,fun u y hy=>?_⟩
 rw [hl]
 rcases AG hy with ⟨rfl,rfl⟩|⟨_,hy⟩
 ·exact AlJ f k.h ht a rfl r
 ·exact (b u y hy).mono (jY _)
theorem AkP (f:Okc c):Lrg (newM c).m (newM c).tasks:=fun _=>by
 have hs:=JO f
 refine ⟨⟨?_,?_,fO _,fun x h=>(by cases h)⟩,fun t x h=>?_⟩
 ·have:okU (setupL c):=by
   unfold setupL
   have h0:okU (List.replicate (totL c).toNat 0):=fun w hw=>by rw [iS hw];decide
   exact XE (XE (XE h0 _ (EK DK (by decide))) _ (EK DK (by decide))) _ (AgN c)
  exact this
 ·rw [hs.2.2.1];exact gG _
 ·obtain ⟨ht,rfl⟩:=FW h
  have hd:=f.nod
  refine PW ?_ ⟨_,_,_,_,_,.inl rfl,rfl⟩
  show (poolL c t).length+0≤64+0
  rw [SB f ht,MC]
  omega
def VT (c:AB) (m:Mm) (l:List AC) (u:List DA):Prop:=∃S H,All c S H m l u∧Lrg m l
theorem n7_ (f:Okc c):VT c (newM c).m (newM c).tasks (newM c).turns:=⟨_,_,VW f,AkP f⟩
theorem AqN (f:Okc c) {s:Mc} (h:VT c s.m s.tasks s.turns) (e:EG):VT c (doM c s e).m (doM c s e).tasks (doM c s e).turns:=by
 refine WF (K:=VT c) (fun m l u t q h ht hp hq hs=>?_) (fun m l u t z h ht h0=>?_) h e
 all_goals
  obtain ⟨S,H,A,L⟩:=h
  have hlt:t<l.length:=by have:=A.inv.ll;unfold thrN at ht;omega
  have hx:l[t]? = some (l.getD t AK):=by rw [fK,ZgE hlt];rfl
 ·exact ⟨S,H,HC f A hx hp hq hs,NN L hx q⟩
 ·obtain ⟨S',H',B,_⟩:=LN (z:=z) f A hx h0
  exact ⟨S',H',B,ZX f A.inv L hx h0⟩
end Go.Proofs.YtccefppppedgkaaGreat
namespace Go.Proofs.YtccefppppedgkaaGreat
open Go.RowKit
section
attribute [local irreducible] AL AW RG Fin C Cd Cio AI AF AN
section
abbrev aPo (p:BV):AV:=.agg [i64 p.own.index,i64 p.own.tag,.ln (p.free.map tSl),.ln (p.old.map tOd),i64 p.spent]
abbrev fPo (p:BV):AV:=.agg [i64 p.own.index,i64 p.own.tag,.t (.lst (p.free.map tSl)),.t (.lst (p.old.map tOd)),i64 p.spent]
theorem AmA (last:Int) (p:BV) (hs:p.free.length+p.old.length≤5864062014805):Cd Tryz.prog 214 [aPo p,i64 last] (.tup [fPo (takeP last p),bo (decide ((takeP last p).own.tag≠0))]) []:=by
 have h0:=AtD last p.own.index p.own.tag p.spent p.free p.old (by omega) (by omega)
 unfold takeP fPo
 dsimp only
 have h0':=Cd.frz h0 0 rfl aB rfl;exact Cd.drop h0' rfl
theorem ZT (p:BV) (hs:p.free.length+p.old.length≤5864062014805):Cd Tryz.prog 97 [aPo p] (fPo (leaveP p)) []:=by
 have h0:Cd Tryz.prog 97 [.agg [i64 p.own.index,i64 p.own.tag,.ln (p.free.map tSl),.ln (p.old.map tOd),i64 p.spent]] (.agg [i64 0,i64 0,.sl 0 0 p.free.length,.sl 1 0 p.old.length,i64 p.spent]) [.row 0 233 2 (p.free.map tSl),.row 0 236 3 (p.old.map tOd)]:=by
  refine ZEN Tryz.func97 Tryz.ntmps97 ?_
  repeat' (first|(refine ZAL ?_;first|refine Eo ?_|refine uA ?_)|refine uC ?_|refine ZK2 (fun hc=>?_) (fun hc=>?_)|fail)
  all_goals ((first|exact Fin.q Tryz.results97 (.cons (.agg rfl rfl ud51 rfl inf51 (us:=[_,_,_,_,_]) rfl rfl) .nil) [2,3]|refine Fin.q Tryz.results97 (.cons (.agg rfl rfl ud51 rfl inf51 (us:=[_,_,_,_,_]) rfl rfl) .nil) [2,3] (hr:=(.t ?_))|refine G1 Tryz.results97 ?_ ?_ ?_<;>repeat' (first|exact ZE1|refine ZE2 ?_ ?_|refine ZE3 ?_|exact ZE4|fail)))
 unfold leaveP fPo
 dsimp only
 have h0':=Cd.frz1 h0 0 rfl aB rfl;have h0'':=Cd.frz1 h0' 1 rfl aB rfl;exact Cd.drop h0'' rfl
theorem AiD (p:BV) (r:IW) (st:Int) (hs:p.free.length+p.old.length≤5864062014804):Cd Tryz.prog 184 [aPo p,.agg [i64 r.index,i64 r.tag],i64 st] (fPo (awayP p r st)) []:=by
 have h1:(p.old.map tOd).length=p.old.length:=fH _
 have h0:Cd Tryz.prog 184 [.agg [i64 p.own.index,i64 p.own.tag,.ln (p.free.map tSl),.ln (p.old.map tOd),i64 p.spent],.agg [i64 r.index,i64 r.tag],i64 st] (.agg [i64 p.own.index,i64 p.own.tag,.sl 0 0 p.free.length,.sl 1 0 (p.old.length+1),i64 p.spent]) [.row 0 233 2 (p.free.map tSl),.row 0 236 3 ((p.old++[(⟨⟨r.index,r.tag⟩,st⟩:CD)]).map tOd)]:=by
  refine ZEN Tryz.func184 Tryz.ntmps184 ?_
  repeat' (first|(refine ZAL ?_;first|refine Eo ?_|(refine kL 1635 rfl ?_;first|refine A_store_rp rfl rfl 51 _ _ rfl inf51 (by decide) rfl rfl aI rfl rfl rfl (ZbT rfl) (by first|exact map_set (f:=tOd) (x:=⟨⟨r.index,r.tag⟩,st⟩)|exact qN) qN ?_)|(refine kL 1583 rfl ?_;first|refine A_lit rfl rfl 49 1 _ rfl ud49 inf236 (.cons rfl .nil) (els:=[[_,_,_]]) rfl (by first|exact (rfl:_=List.map tOd [⟨⟨r.index,r.tag⟩,st⟩])|exact qN) rfl (fT rfl) (ZbT rfl) (ZbT rfl) (.push qL qN) ?_)|(refine kL 12 rfl ?_;first|refine DD rfl rfl _ _ 49 rfl ud49 inf236 rfl rfl rfl cY aA qB qB (by first|exact app_map aG|exact app_one (f:=tOd) (x:=⟨⟨r.index,r.tag⟩,st⟩) aG|exact qN) qN qS ?_|refine BL rfl rfl _ _ 49 rfl ud49 inf236 rfl rfl aA qB qB (by first|exact (rfl:_=List.map tOd [⟨⟨r.index,r.tag⟩,st⟩])|exact qN) (.push qL qN) qS ?_|refine A_append_nlsub rfl rfl _ _ 49 rfl ud49 inf236 rfl rfl rfl rfl aK qB qB iW.symm (.push qL qN) ?_)|(refine kL 1571 rfl ?_;first|refine A_store_rp rfl rfl 49 _ _ rfl n3_ (by decide) rfl rfl aI rfl rfl rfl (ZbT rfl) (by first|exact map_set (f:=tOd) (x:=⟨⟨r.index,r.tag⟩,st⟩)|exact qN) qN ?_)|refine uA ?_)|refine uC ?_|refine ZK2 (fun hc=>?_) (fun hc=>?_)|fail)
  all_goals ((first|exact Fin.q Tryz.results184 (.cons (.agg rfl rfl ud51 rfl inf51 (us:=[_,_,_,_,_]) rfl rfl) .nil) [3,4]|refine Fin.q Tryz.results184 (.cons (.agg rfl rfl ud51 rfl inf51 (us:=[_,_,_,_,_]) rfl rfl) .nil) [3,4] (hr:=(.t ?_))|refine Fin.mkv (rs:=_) Tryz.results184 (.cons (.agg rfl rfl ud51 rfl inf51 (us:=[_,_,_,_,_]) rfl rfl) .nil) [3,4] (by decide) rfl ?_ ?_ ?_<;>repeat' (first|exact ZE1|refine ZE2 ?_ ?_|refine ZE3 ?_|exact ZE4|fail)))
 unfold awayP fPo
 dsimp only
 have h2:(p.old++[(⟨r,st⟩:CD)]).length=p.old.length+1:=by simp
 have h0':=Cd.frz1 h0 0 rfl aB rfl;have h0'':=Cd.frz1 h0' 1 rfl aB rfl;exact Cd.drop h0'' rfl
theorem AbN (g:Int) (hg:g≤9223372036854775807) (p:BV) (hs:p.free.length+p.old.length≤5864062014805):Cd Tryz.prog 187 [aPo p,i64 g] (.tup [fPo (backP p (prE g)),i64 ((p.old.length:Int)-(FV (prE g) p.old).length)]) []:=by
 have h0:=AuQ g hg p.own.index p.own.tag p.spent p.free p.old hs
 unfold backP fPo
 dsimp only
 have h0':=Cd.frz h0 0 rfl aB rfl;have h0'':=Cd.frz h0' 1 rfl aB rfl;exact Cd.drop h0'' rfl
theorem ApE (l:List Int) (hl:l.length≤1152921504606846976) (p:BV) (hs:p.free.length+p.old.length≤5864062014805):Cd Tryz.prog 191 [aPo p,.ln (l.map tU)] (.tup [fPo (backP p (prS l)),i64 ((p.old.length:Int)-(FV (prS l) p.old).length)]) []:=by
 have h0:=AuR l hl p.own.index p.own.tag p.spent p.free p.old hs
 unfold backP fPo
 dsimp only
 have h0':=Cd.frz h0 0 rfl aB rfl;have h0'':=Cd.frz h0' 1 rfl aB rfl;exact Cd.drop h0'' rfl
theorem w5_ (p:BV) (lim:Int):o3_ p.own.tag p.free.length p.old.length lim=needsP p lim:=by
 unfold o3_ needsP whyP
 cases hf:p.free<;>cases ho:p.old<;>simp<;>omega
theorem MB (p:BV) (lim:Int):Cd Tryz.prog 188 [aPo p,i64 lim] (bo (needsP p lim)) []:=by
 rw [←w5_];exact AkO _ _ _ _ _ _
theorem AmL (p:BV):why p.own.tag p.free.length p.old.length=whyP p:=by
 unfold why whyP
 cases hf:p.free<;>cases ho:p.old<;>simp
theorem AtJ (p:BV):Cd Tryz.prog 228 [aPo p] (i64 (whyP p)) []:=by
 rw [←AmL];exact AoD _ _ _ _ _
theorem RY (g:Int) (hg:0≤g∧g≤4611686018427387904):Cd Tryz.prog 163 [i64 g] (u64 (GE g)) []:=by
 unfold GE
 refine ZEN Tryz.func163 Tryz.ntmps163 ?_
 repeat' (first|(refine ZAL ?_;first|(refine kL 1481 rfl ?_;first|refine A_shl rfl rfl 46 159 _ _ rfl rfl rfl (by decide) (shl_lit (m:=2) rfl bT) ?_|refine A_bits rfl rfl .or 46 46 _ _ rfl rfl rfl rfl (or_sum 1 (M:=2) rfl (by omega) (by omega) (by omega) (by omega) (by omega) (by omega)) ?_|refine A_bits rfl rfl .or 46 46 _ _ rfl rfl rfl rfl (or_sum' 1 (M:=2) rfl (by omega) (by omega) (by omega) (by omega) (by omega) (by omega)) ?_|refine A_shl rfl rfl 46 159 _ _ rfl rfl rfl dI rfl ?_|refine A_bits rfl rfl .or 46 46 _ _ rfl rfl rfl rfl rfl ?_)|refine uA ?_)|refine uC ?_|refine ZK2 (fun hc=>?_) (fun hc=>?_)|fail)
 all_goals first|(exfalso;omega)|((first|exact A5 Tryz.results163|refine A7 Tryz.results163 ?_|refine A8 Tryz.results163 ?_ ?_ ?_<;>repeat' (first|exact ZE1|refine ZE2 ?_ ?_|refine ZE3 ?_|exact ZE4|fail)))
 all_goals rw [Int.mul_comm]
theorem AkV (w g:Int) (hg:0≤g∧g≤4611686018427387904):Cd Tryz.prog 190 [u64 w,i64 g] (bo (letsW w g)) []:=by
 have c1:=RY g hg
 unfold letsW
 refine ZEN Tryz.func190 Tryz.ntmps190 ?_
 repeat' (first|refine A6 ?_|refine uS 7 (fun hb=>?_) (fun hb=>?_)|refine ZK2 (fun hc=>?_) (fun hc=>?_)|fail)
 all_goals first|(exfalso;omega)|((first|exact A5 Tryz.results190|refine A7 Tryz.results190 ?_|refine A8 Tryz.results190 ?_ ?_ ?_<;>repeat' (first|exact ZE1|refine ZE2 ?_ ?_|refine ZE3 ?_|exact ZE4|fail)))
 all_goals simp [*]
variable {c:AB} {t:Int}
theorem f8_ (f:Okc c) (ht:0≤t∧t<c.threads):Cd Tryz.prog 171 [aCf c,i64 t] (i64 (aSeq c t)) []:=by
 have:=f.facts
 have h:=AsX c t
 rw [DQ (by omega)] at h;exact h
theorem AaY (f:Okc c) (ht:0≤t∧t<c.threads):Cd Tryz.prog 173 [aCf c,i64 t] (i64 (EP c t)) []:=by
 have:=f.facts
 have h:=AhZ c t
 unfold AnF at h
 rw [DQ (x:=3+c.threads) (by omega),DQ (x:=t*5) (by omega),DQ (by omega)] at h;exact h
theorem QN (f:Okc c) (ht:0≤t∧t<c.threads):Cd Tryz.prog 165 [aCf c,i64 t] (i64 (aHaz c t)) []:=by
 have:=f.facts
 have h:=ApQ c t
 unfold AuZ at h
 rw [DQ (x:=c.threads*6) (by omega),DQ (x:=3+c.threads*6) (by omega),DQ (by omega)] at h;exact h
theorem QM (f:Okc c) (ht:0≤t∧t<c.threads):Cd Tryz.prog 162 [aCf c,i64 t] (i64 (aEpo c t)) []:=by
 have:=f.facts
 have h:=AuU c t
 unfold epL at h
 rw [DQ (x:=c.threads*7) (by omega),DQ (x:=3+c.threads*7) (by omega),DQ (by omega)] at h;exact h
theorem GG (f:Okc c) (ht:0≤t∧t<c.threads):Cd Tryz.prog 177 [aCf c,i64 t] (i64 (aMail c t)) []:=by
 have:=f.facts
 have h:=AjX c t
 unfold AnN at h
 rw [DQ (x:=c.threads*8) (by omega),DQ (x:=3+c.threads*8) (by omega),DQ (by omega)] at h;exact h
theorem VV (f:Okc c) (hs:c.start.length≤1152921504606846976) {i:Int} (h0:0≤i) (h1:i≤nodesL c):Cd Tryz.prog 56 [aCf c,i64 i] (i64 (aNode c i)) []:=by
 have hn:=(EJ f.ok).2
 have h:=WX c hs i
 rw [RT f.ok h0 (by omega)] at h;exact h
end
end
end Go.Proofs.YtccefppppedgkaaGreat
