/- Joined: XTShapeR, XTDone. -/
import Derived.Test.YtccefppppedgkaaGreatKHn
set_option linter.unusedVariables false
set_option linter.unusedSimpArgs false
set_option linter.unnecessarySimpa false
set_option maxRecDepth 100000
set_option maxHeartbeats 64000000
namespace Go.Proofs.YtccefppppedgkaaGreat
open Go.RowKit
section
attribute [local irreducible] AL AW RG Fin C Cd Cio AI AF AO
theorem AaO {a b x y:Int} (h1:0≤a) (h2:a≤x) (h3:0≤b) (h4:b≤y):0≤a*b∧a*b≤x*y:=⟨jZ h1 h3,nB h2 h4 h3 (by omega)⟩
theorem w4_ (c:AB) (hs:c.start.length≤1152921504606846976):Cd Tryz.prog 138 [aCf c] (i64 (stateC c)) []:=by
 have c1:=ES c hs
 unfold stateC
 cases hk:AZ c
 ·rw [hk] at c1
  refine ZEN Tryz.func138 Tryz.ntmps138 ?_
  repeat' (first|refine A7 ?_|fail)
  all_goals exact A2 Tryz.results138
 ·rw [hk] at c1
  have S:=AJ hk
  have b1:=S.t0
  have b2:=S.t1
  rw [fR rfl]
  by_cases k:c.kind=3
  ·rw [fR k]
   have h3:=S.h3 k
   have hp:=AaO (a:=c.chans) (b:=1+c.cap) (x:=8) (y:=9) (by omega) (by omega) (by omega) (by omega)
   refine ZEN Tryz.func138 Tryz.ntmps138 ?_
   repeat' (first|refine A7 ?_|fail)
   all_goals exact A2 Tryz.results138
  ·rw [fT k]
   have h1:=S.h1 k
   refine ZEN Tryz.func138 Tryz.ntmps138 ?_
   repeat' (first|refine A7 ?_|fail)
   all_goals exact A2 Tryz.results138
theorem IC {c:AB} (h:AZ c=true):0≤stateC c∧stateC c≤329:=by
 have S:=AJ h
 have b1:=S.t0
 have b2:=S.t1
 unfold stateC
 rw [fR h]
 by_cases k:c.kind=3
 ·rw [fR k]
  have h3:=S.h3 k
  have hp:=AaO (a:=c.chans) (b:=1+c.cap) (x:=8) (y:=9) (by omega) (by omega) (by omega) (by omega)
  omega
 ·rw [fT k]
  have h1:=S.h1 k
  omega
theorem o_ (c:AB) (hs:c.start.length≤1152921504606846976):Cd Tryz.prog 94 [aCf c] (i64 (sizeC c)) []:=by
 have c1:=ES c hs
 have c2:=w4_ c hs
 unfold sizeC
 cases hk:AZ c
 ·rw [hk] at c1
  refine ZEN Tryz.func94 Tryz.ntmps94 ?_
  repeat' (first|refine A7 ?_|fail)
  all_goals exact A2 Tryz.results94
 ·rw [hk] at c1
  have b0:=IC hk
  have S:=AJ hk
  have b1:=S.t0
  have b2:=S.t1
  rw [fR rfl]
  refine ZEN Tryz.func94 Tryz.ntmps94 ?_
  repeat' (first|refine Fu ?_|fail)
  all_goals exact A2 Tryz.results94
theorem inR_t {n a b:Int} (h:inI n a b=true):Cd Tryz.prog 98 [i64 n,i64 a,i64 b] (bo true) []:=by rw [←h];exact ApX n a b
theorem inR_f {n a b:Int} (h:inI n a b=false):Cd Tryz.prog 98 [i64 n,i64 a,i64 b] (bo false) []:=by rw [←h];exact ApX n a b
theorem TP (c:AB) (hs:c.start.length≤1152921504606846976):Cd Tryz.prog 60 [aCf c] (i64 (if AZ c then 0 else 1)) []:=by
 have h0:(c.start.map tI).length=c.start.length:=fN _
 have hst:c.start=[]↔c.start.length=0:=mX.symm
 cases h1:inI c.threads 1 64
 ·rw [show AZ c=false by unfold AZ;simp [*],fT (by decide)]
  refine Ac ?_
  repeat' (first|(refine ZAL ?_;first|(refine kL 3146 rfl ?_;first|(refine uK (inR_f ?zq0) ?_;(case zq0=>assumption)))|refine uA ?_)|refine uC ?_|fail)
  all_goals exact A2 Tryz.results60
 cases h2:inI c.nodes 1 64
 ·rw [show AZ c=false by unfold AZ;simp [*],fT (by decide)]
  refine Ac ?_
  repeat' (first|refine As ?_|fail)
  all_goals exact A2 Tryz.results60
 cases h3:inI c.retire 1 32
 ·rw [show AZ c=false by unfold AZ;simp [*],fT (by decide)]
  refine Ac ?_
  repeat' (first|refine As ?_|fail)
  all_goals exact A2 Tryz.results60
 cases h4:inI c.patience 0 4
 ·rw [show AZ c=false by unfold AZ;simp [*],fT (by decide)]
  refine Ac ?_
  repeat' (first|refine As ?_|fail)
  all_goals exact A2 Tryz.results60
 cases h5:inI c.tags 1 4294967295
 ·rw [show AZ c=false by unfold AZ;simp [*],fT (by decide)]
  refine Ac ?_
  repeat' (first|refine As ?_|fail)
  all_goals exact A2 Tryz.results60
 cases h6:inI c.seqs 1 1048575
 ·rw [show AZ c=false by unfold AZ;simp [*],fT (by decide)]
  refine Ac ?_
  repeat' (first|refine As ?_|fail)
  all_goals exact A2 Tryz.results60
 have hC:AZ c=ownC c:=by unfold AZ;simp [*]
 rw [hC]
 unfold ownC
 by_cases k:c.kind=1∨c.kind=2
 ·rw [fR k]
  cases h7:inI c.cap 1 16
  ·rw [fT (by simp)]
   refine Ac ?_
   repeat' (first|refine As ?_|refine uS 42 (fun hb=>?_) (fun hb=>?_)|fail)
   all_goals exact A2 Tryz.results60
  by_cases e1:c.chans=0
  ·by_cases e2:c.gens=0
   ·by_cases e3:c.start.length=0
    ·have e4:c.start=[]:=hst.2 e3
     rw [fR (by simp [e4,e1,e2])]
     refine Ac ?_
     repeat' (first|refine B9 ?_|refine uS 42 (fun hb=>?_) (fun hb=>?_)|fail)
     all_goals exact A2 Tryz.results60
    ·have e4:c.start≠[]:=fun h=>e3 (hst.1 h)
     rw [fT (by simp [e4])]
     refine Ac ?_
     repeat' (first|refine B9 ?_|refine uS 42 (fun hb=>?_) (fun hb=>?_)|fail)
     all_goals exact A2 Tryz.results60
   ·rw [fT (by simp [e2])]
    refine Ac ?_
    repeat' (first|refine B9 ?_|refine uS 42 (fun hb=>?_) (fun hb=>?_)|fail)
    all_goals exact A2 Tryz.results60
  ·rw [fT (by simp [e1])]
   refine Ac ?_
   repeat' (first|refine B9 ?_|refine uS 42 (fun hb=>?_) (fun hb=>?_)|fail)
   all_goals exact A2 Tryz.results60
 ·rw [fT k]
  by_cases k3:c.kind=3
  ·rw [fR k3]
   cases h8:inI c.chans 1 8
   ·rw [fT (by simp)]
    refine Ac ?_
    repeat' (first|refine As ?_|fail)
    all_goals exact A2 Tryz.results60
   cases h9:inI c.cap 0 8
   ·rw [fT (by simp)]
    refine Ac ?_
    repeat' (first|refine As ?_|fail)
    all_goals exact A2 Tryz.results60
   cases h10:inI c.gens 1 4095
   ·rw [fT (by simp)]
    refine Ac ?_
    repeat' (first|refine As ?_|fail)
    all_goals exact A2 Tryz.results60
   by_cases e1:(c.start.length:Int)≤c.chans
   ·rw [fW e1]
    simp only [kM]
    refine Ac ?_
    repeat' (first|refine B9 ?_|fail)
    all_goals try exact ZE5
    refine AW.loopP (fun (i:Nat)=>i≤c.start.length ∧ ∀j,j<i → ∀a,c.start[j]? = some a→inI a 0 c.cap=true) (fun (i:Nat)=>(pu (pu (pu (pu (fun _=>.any) 1 (.ptr 0 0)) 97 (.ln (c.start.map tI))) 98 (i64 (c.start.map tI).length)) 99 (i64 i))) (fun (i:Nat)=>[.box 24 [i64 c.kind,i64 c.threads,i64 c.chans,i64 c.cap,i64 c.nodes,i64 c.retire,i64 c.patience,i64 c.tags,i64 c.seqs,i64 c.gens,.ln (c.start.map tI)]]) (fun (i:Nat)=>c.start.length-i) (0) ?_ ?_ ?_
    ·exact ⟨fX _,fun j hj=>by omega⟩
    ·exact Wk.cq 1
    ·rintro i ⟨h2,h3⟩
     by_cases hi:i<c.start.length
     ·obtain ⟨a,ha⟩ : ∃a,c.start[i]? = some a:=⟨_,ZgE hi⟩
      cases hv:inI a 0 c.cap
      ·rw [show (c.start.any fun n => !inI n 0 c.cap)=true from lN.2 ⟨a,fO ha,by rw [hv];rfl⟩]
       repeat' (first|(refine ZAL ?_;first|refine uA ?_|refine uK (inR_f hv) ?_)|refine uC ?_|fail)
       all_goals exact A2 Tryz.results60
      ·repeat' (first|(refine ZAL ?_;first|refine uA ?_|refine uK (inR_t hv) ?_)|refine uC ?_|fail)
       all_goals try exact ZE5
       refine ⟨i+1,⟨by omega,fun j hj b hb=>?_⟩,by omega,?_⟩
       ·by_cases e:j=i
        ·subst e;rw [ha] at hb;cases hb;exact hv
        ·exact h3 j (by omega) b hb
       ·exact Wk.cq 1
     ·rw [show (c.start.any fun n => !inI n 0 c.cap)=false from List.any_eq_false.2 fun a ha=>by
       obtain ⟨j,hj⟩:=jN ha
       rw [h3 j eY a hj];decide]
      repeat' (first|refine A0 ?_|fail)
      all_goals exact A2 Tryz.results60
   ·rw [fT (by simp [e1])]
    refine Ac ?_
    repeat' (first|refine B9 ?_|fail)
    all_goals exact A2 Tryz.results60
  ·rw [fT k3,fT (by decide)]
   refine Ac ?_
   repeat' (first|refine B9 ?_|fail)
   all_goals exact A2 Tryz.results60
theorem AiG (c:AB) (hs:c.start.length≤1152921504606846976):Cd Tryz.prog 61 [aCf c] (i64 (stateC c)) []:=by
 have c1:=TP c hs
 unfold stateC
 cases hk:AZ c
 ·rw [hk] at c1
  refine ZEN Tryz.func61 Tryz.ntmps61 ?_
  repeat' (first|refine A7 ?_|fail)
  all_goals exact A2 Tryz.results61
 ·rw [hk] at c1
  have S:=AJ hk
  have b1:=S.t0
  have b2:=S.t1
  rw [fR rfl]
  by_cases k:c.kind=3
  ·rw [fR k]
   have h3:=S.h3 k
   have hp:=AaO (a:=c.chans) (b:=c.cap) (x:=8) (y:=8) (by omega) (by omega) (by omega) (by omega)
   have e:1+c.chans*(1+c.cap)+c.threads*4=1+c.chans+c.chans*c.cap+4*c.threads:=by rw [Int.mul_add];omega
   rw [e]
   refine ZEN Tryz.func61 Tryz.ntmps61 ?_
   repeat' (first|refine A7 ?_|fail)
   all_goals exact A2 Tryz.results61
  ·rw [fT k]
   have h1:=S.h1 k
   rw [Int.add_comm 1]
   refine ZEN Tryz.func61 Tryz.ntmps61 ?_
   repeat' (first|refine A7 ?_|fail)
   all_goals exact A2 Tryz.results61
theorem RE (c:AB) (hs:c.start.length≤1152921504606846976):Cd Tryz.prog 18 [aCf c] (i64 (sizeC c)) []:=by
 have c1:=TP c hs
 have c2:=AiG c hs
 unfold sizeC
 cases hk:AZ c
 ·rw [hk] at c1
  refine ZEN Tryz.func18 Tryz.ntmps18 ?_
  repeat' (first|refine A7 ?_|fail)
  all_goals exact A2 Tryz.results18
 ·rw [hk] at c1
  have b0:=IC hk
  have S:=AJ hk
  have b1:=S.t0
  have b2:=S.t1
  rw [fR rfl]
  refine ZEN Tryz.func18 Tryz.ntmps18 ?_
  repeat' (first|refine Fu ?_|fail)
  all_goals exact A2 Tryz.results18
def doneL (c:AB) (l:List Int) (t:Int):Int:=if AZ c=true∧(0≤t∧t<c.threads)∧stateC c+t<l.length then l.getD (stateC c+t).toNat 0 else 0
theorem XS (c:AB) (hs:c.start.length≤1152921504606846976) (l:List Int) (t:Int) (hl:l.length≤1152921504606846976):Cd Tryz.prog 176 [aCf c,.ln (l.map tU),i64 t] (u64 (doneL c l t)) []:=by
 have c1:=ES c hs
 have c2:=w4_ c hs
 have h1:(l.map tU).length=l.length:=fN _
 unfold doneL
 by_cases hA:AZ c=true∧(0≤t∧t<c.threads)∧stateC c+t<l.length
 ·rw [fR hA]
  obtain ⟨h0,h2,h3⟩:=hA
  rw [h0] at c1
  have b:=IC h0
  have S:=(AJ h0).t1
  generalize stateC c=z at *
  obtain ⟨a,ha⟩ : ∃a,l[(z+t).toNat]? = some a:=⟨_,ZgE (by omega)⟩
  rw [fQ,ha]
  refine Cb ?_
  repeat' (first|refine E7 ?_|fail)
  all_goals exact A2 Tryz.results176
 ·rw [fT hA]
  have zb:0≤stateC c∧stateC c≤329:=by
   cases hk:AZ c
   ·have e:stateC c=0:=by unfold stateC;rw [hk];rfl
    omega
   ·exact IC hk
  cases h0:AZ c
  ·rw [h0] at c1
   clear hA
   refine Cb ?_
   repeat' (first|refine E7 ?_|refine uS 14 (fun hb=>?_) (fun hb=>?_)|refine uS 20 (fun hb=>?_) (fun hb=>?_)|fail)
   all_goals exact A2 Tryz.results176
  ·rw [h0] at c1
   have S:=(AJ h0).t1
   have hB : ¬((0≤t∧t<c.threads)∧stateC c+t<l.length):=fun h=>hA ⟨h0,h⟩
   generalize stateC c=z at *
   by_cases ht:0≤t∧t<c.threads
   ·refine Cb ?_
    repeat' (first|refine E7 ?_|fail)
    all_goals exact A2 Tryz.results176
   ·by_cases h0:t<0
    ·refine Cb ?_
     repeat' (first|refine Cc ?_|fail)
     all_goals exact A2 Tryz.results176
    ·refine Cb ?_
     repeat' (first|refine Cc ?_|fail)
     all_goals exact A2 Tryz.results176
end
end Go.Proofs.YtccefppppedgkaaGreat
