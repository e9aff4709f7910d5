/- Joined: XTHallB. -/
import Derived.Test.YtccefppppedgkaaGreatKGs
set_option linter.unusedVariables false
set_option linter.unusedSimpArgs false
set_option linter.unnecessarySimpa false
set_option maxRecDepth 100000
set_option maxHeartbeats 64000000
namespace Go.Proofs.YtccefppppedgkaaGreat
open Go.RowKit
section
attribute [local irreducible] AL AW RG Fin C Cd Cio AI AF AN
theorem YN (x:BD):VY x=true ↔ ¬(x.dir=1∨x.dir=2)∨x.value<0∨4294967295<x.value:=by unfold VY;exact decide_eq_true_iff
theorem AbC {α:Type} {p:α→Bool} {l:List α} {q:Nat} {a:α} (h:l[q]? = some a) (hp:p a=true):l.any p=true:=kU.2 ⟨a,fI h,hp⟩
theorem YH {α:Type} {p:α→Bool} {l:List α} (h : ∀(j:Nat) b,l[j]? = some b→p b=false):l.any p=false:=by
 cases e:l.any p
 ·rfl
 ·obtain ⟨a,ha,hp⟩:=kU.1 e
  obtain ⟨j,hj⟩:=jF ha
  rw [h j a hj] at hp;cases hp
theorem AcX (c:AB) (m k:Nat) (h:AM) (t n:Int) (l:List BD) (hl : ∀x∈l,sCs x) (hl0:l.length≤1152921504606846976) (hm:h.chans.length=m) (hk:h.done.length=k) (hm1:m≤2932031007402) :
  Cio Tryz.prog 298 [.ptr 0 0,.ln (l.map tCs)] (stH c m k h t n) (i64 (casesE h l)) (stH c m k h t n):=by
 have h1:(h.chans.map tCh).length=m:=by rw [fH,hm]
 have h1k:(h.done.map tR).length=k:=by rw [fH,hk]
 have h2:(l.map tCs).length=l.length:=fH _
 dsimp only [stH,stB]
 by_cases hlen:l.length=0∨3<l.length
 ·have e:casesE h l=1:=by unfold casesE;rw [fL (by rcases hlen with h|h;exact .inl h;exact .inr (.inl h))]
  rw [e]
  by_cases h0:l.length=0
  all_goals
   refine ZEN Tryz.func298 Tryz.ntmps298 ?_
   repeat' (first|refine A0 ?_|fail)
   all_goals first|(exfalso;omega)|(exact A5 Tryz.results298)
 ·generalize hE:casesE h l=E
  refine ZEN Tryz.func298 Tryz.ntmps298 ?_
  repeat' (first|refine A0 ?_|fail)
  all_goals try exact ZE5
  refine AW.loopP (fun (q:Nat)=>q≤l.length ∧ ∀j,j<q → ∀b,l[j]? = some b→VY b=false) (fun (q:Nat)=>(pu (pu (pu (pu (pu (pu (fun _=>.any) 0 (.ptr 0 0)) 1 (.ln (l.map tCs))) 4 (i64 0)) 19 (.ln (l.map tCs))) 20 (i64 (l.map tCs).length)) 21 (i64 q))) (fun (q:Nat)=>[.box 295 [i64 h.ticket,.sl 1 0 m,.t (.lst (h.waits.map tWt)),.sl 2 0 k,i64 c.kind,i64 c.threads,i64 c.chans,i64 c.cap,i64 c.nodes,i64 c.retire,i64 c.patience,i64 c.tags,i64 c.seqs,i64 c.gens,.t (.lst (c.start.map tI)),i64 t,i64 n],.row 0 101 5 (h.chans.map tCh),.row 0 53 4 (h.done.map tR)]) (fun (q:Nat)=>l.length-q) (0) ?_ ?_ ?_
  ·exact ⟨fO _,fun j hj=>by omega⟩
  ·exact Wk.cq 3
  ·rintro q ⟨hq,hno⟩
   by_cases hi:q<l.length
   ·obtain ⟨⟨d,hd,v⟩,hx⟩ : ∃x,l[q]? = some x:=⟨_,ZgE hi⟩
    cases hb:VY ⟨d,hd,v⟩
    ·have hb2 : ¬(¬(d=1∨d=2)∨v<0∨4294967295<v):=fun e=>by rw [(YN ⟨d,hd,v⟩).2 e] at hb;cases hb
     have hno' : ∀j,j<q+1 → ∀b,l[j]? = some b→VY b=false:=fun j hj b hjb=>by
      by_cases ej:j=q
      ·subst ej;rw [hx] at hjb;cases hjb;exact hb
      ·exact hno j (by omega) b hjb
     by_cases d1:d=1
     all_goals
      repeat' (first|refine A0 ?_|fail)
      all_goals try exact ZE5
      refine ⟨q+1,⟨by omega,hno'⟩,by omega,?_⟩
      exact Wk.cq 3
    ·have hb2:=(YN ⟨d,hd,v⟩).1 hb
     dsimp only at hb2
     have e:E=1:=by rw [←hE];unfold casesE;rw [fL (.inr (.inr (AbC hx hb)))]
     subst e
     by_cases d1:d=1
     ·by_cases v1:v<0
      all_goals
       repeat' (first|refine A0 ?_|fail)
       all_goals first|(exfalso;omega)|(exact A5 Tryz.results298)
     ·by_cases d2:d=2
      ·by_cases v1:v<0
       all_goals
        repeat' (first|refine A0 ?_|fail)
        all_goals first|(exfalso;omega)|(exact A5 Tryz.results298)
      ·repeat' (first|refine A0 ?_|fail)
       all_goals exact A2 Tryz.results298
   ·have hbad:l.any VY=false:=YH fun j b hj=>hno j eU b hj
    clear hno
    repeat' (first|refine A0 ?_|fail)
    all_goals try exact ZE5
    refine AW.loopP (fun (p:Nat)=>p≤l.length ∧ ∀j,j<p → ∀b,l[j]? = some b→DE h b.handle=true) (fun (p:Nat)=>(pu (pu (pu (pu (pu (fun _=>.any) 0 (.ptr 0 0)) 4 (i64 0)) 44 (.ln (l.map tCs))) 45 (i64 (l.map tCs).length)) 46 (i64 p))) (fun (p:Nat)=>[.box 295 [i64 h.ticket,.sl 1 0 m,.t (.lst (h.waits.map tWt)),.sl 2 0 k,i64 c.kind,i64 c.threads,i64 c.chans,i64 c.cap,i64 c.nodes,i64 c.retire,i64 c.patience,i64 c.tags,i64 c.seqs,i64 c.gens,.t (.lst (c.start.map tI)),i64 t,i64 n],.row 0 101 5 (h.chans.map tCh),.row 0 53 4 (h.done.map tR)]) (fun (p:Nat)=>l.length-p) (0) ?_ ?_ ?_
    ·exact ⟨fO _,fun j hj=>by omega⟩
    ·exact Wk.cq 3
    ·rintro p ⟨hp,hno⟩
     by_cases hi:p<l.length
     ·obtain ⟨⟨d,hd,v⟩,hx⟩ : ∃x,l[p]? = some x:=⟨_,ZgE hi⟩
      have cF:=NJ h hd (hl _ (fI hx)).2.1 (by omega)
      cases hf:DE h hd
      ·rw [hf] at cF
       have e:E=8:=by rw [←hE];unfold casesE;rw [hbad,fM (by rintro (h|h|h);exact hlen (.inl h);exact hlen (.inr h);cases h),fL (AbC hx (by simp [hf]))]
       subst e
       repeat' (first|refine Et ?_|fail)
       all_goals exact A2 Tryz.results298
      ·rw [hf] at cF
       have hno' : ∀j,j<p+1 → ∀b,l[j]? = some b→DE h b.handle=true:=fun j hj b hjb=>by
        by_cases ej:j=p
        ·subst ej;rw [hx] at hjb;cases hjb;exact hf
        ·exact hno j (by omega) b hjb
       repeat' (first|refine Et ?_|fail)
       all_goals try exact ZE5
       refine ⟨p+1,⟨by omega,hno'⟩,by omega,?_⟩
       exact Wk.cq 3
     ·have e:E=0:=by rw [←hE];unfold casesE;rw [hbad,fM (by rintro (h|h|h);exact hlen (.inl h);exact hlen (.inr h);cases h),YH fun j b hj=>by simp [hno j eU b hj]];rfl
      subst e
      repeat' (first|refine A0 ?_|fail)
      all_goals exact A2 Tryz.results298
abbrev aCs (x:BD):AV:=.agg [i64 x.dir,i64 x.handle,i64 x.value]
theorem ApS (c:AB) (m k:Nat) (h:AM) (t n which:Int) (x:BD) (hx:sCs x) (hm:h.chans.length=m) (hk:h.done.length=k) (hh:NR h) (hf:DE h x.handle=true) :
  Cio Tryz.prog 300 [.ptr 0 0,i64 which,aCs x] (stH c m k h t n) (aR (oneH h which x).2) (stH c m k (oneH h which x).1 t n):=by
 have h1:(h.chans.map tCh).length=m:=by rw [fH,hm]
 have h1k:(h.done.map tR).length=k:=by rw [fH,hk]
 have hm1:=hh.c
 have hk1:=hh.d
 have cF:=NJ h x.handle hx.2.1 hm1
 obtain ⟨j,ch,e1,e2,hc,hu,hgn,e3,e4,e5⟩:=JS hf
 have hb:=hh.b ch (fI hc)
 have cD:=AzN ch x.handle h.waits x.dir x.value hh.w hb
 obtain ⟨hg1,hg2,hg3,hg4⟩ := @ApJ ch x.handle h.waits x.dir x.value hh.w
 unfold oneH WJ
 rw [hf,e3] at cF
 rw [e3,e4,fW]
 generalize doG ch x.handle h.waits x.dir x.value=g at *
 obtain ⟨⟨g1,g2,g3,g4,gb⟩,gl,⟨r1,r2,r3,r4⟩,gt⟩:=g
 obtain ⟨d,hd,v⟩:=x
 obtain ⟨c1,c2,c3,c4,cb⟩:=ch
 dsimp only at *
 have cT:=k4_ c m k ⟨h.ticket,h.chans.set j ⟨g1,g2,g3,g4,gb⟩,gl,h.done⟩ t n gt hk (by omega) (by omega)
 unfold gA at cD
 dsimp only [stH,stB,aR,aCs,aC] at *
 refine ZEN Tryz.func300 Tryz.ntmps300 ?_
 repeat' (first|(refine ZAL ?_;first|(refine kL 99 rfl ?_;first|refine A_store_rp rfl rfl 3 _ _ rfl inf3 (by decide) rfl rfl cJ rfl rfl rfl (ZbT rfl) bW qN ?_)|(refine kL 1699 rfl ?_;first|refine A_store_rp rfl rfl 53 _ _ rfl inf53 (by decide) rfl rfl cJ rfl rfl rfl (ZbT rfl) bW qN ?_)|refine uA ?_|refine uI [0,1,2] (cT) ?_)|(refine ZRG ?_;first|(refine kR 3235 rfl ?_;first|refine R_store_rp rfl rfl 101 _ _ rfl inf101 (by decide) rfl rfl cJ rfl rfl rfl (ZbT rfl) bW qN ?_)|(refine kR 1699 rfl ?_;first|refine R_store_rp rfl rfl 53 _ _ rfl inf53 (by decide) rfl rfl cJ rfl rfl rfl (ZbT rfl) bW qN ?_)|(refine kR 3011 rfl ?_;first|refine R_store_rp rfl rfl 94 _ _ rfl ZM (by decide) rfl rfl cJ rfl rfl rfl (ZbT rfl) bW qN ?_)|refine uR ?_|refine AZ (cF) ?_|refine AZ (cD) ?_)|refine uC ?_|(first|refine AW.drawU (id:=1) mixed 0 qR ?_|refine AW.drawU (id:=2) mixed 2 qR ?_|refine AW.drawU (id:=3) mixed 0 qR ?_)|refine ZK2 (fun hc=>?_) (fun hc=>?_)|fail)
 all_goals first|(exfalso;omega)|((first|exact B7 Tryz.results300|refine Fin.q Tryz.results300 (.cons (.agg rfl rfl ud53 rfl inf53 (us:=[_,_,_,_]) rfl rfl) .nil) [] (hr:=(.t ?_))|refine De Tryz.results300 ?_ ?_ ?_<;>repeat' (first|exact ZE1|refine ZE2 ?_ ?_|refine ZE3 ?_|exact ZE4|fail)))
theorem AbU (c:AB) (m k:Nat) (h:AM) (t n:Int) (q:AT) (hq : ∀x∈q.cases,sCs x) (hq0:q.cases.length≤5864062014805) (ht : -9223372036854775808≤h.ticket) (hm:h.chans.length=m) (hk:h.done.length=k) (hh:NR h) :
  Cio Tryz.prog 289 [.ptr 0 0,aRq q] (stH c m k h t n) (aR (chooseH h t n q).2) (stH c m k (chooseH h t n q).1 t n):=by
 have h1:(h.chans.map tCh).length=m:=by rw [fH,hm]
 have h1k:(h.done.map tR).length=k:=by rw [fH,hk]
 have h2:(q.cases.map tCs).length=q.cases.length:=fH _
 have hm1:=hh.c
 have cC:=AcX c m k h t n q.cases hq (by omega) hm hk (by omega)
 unfold chooseH
 obtain ⟨qk,qa,qv,qd,cs⟩:=q
 dsimp only at *
 by_cases hE:casesE h cs=0
 ·rw [hE] at cC
  rw [fM (by omega)]
  obtain ⟨h3,h4, -,h5⟩:=YQ hE
  generalize hR:(if 0≤ixF (KZ h) cs then oneH h (ixF (KZ h) cs) (cs.getD (ixF (KZ h) cs).toNat default)
   else if qd then (h,(⟨0,0,10,0⟩:Rst))
   else if 4294967295≤h.ticket then (h,⟨0,0,7,0⟩)
   else if HL h.waits t then (⟨h.ticket+1,h.chans,putW h.waits t ⟨false,h.ticket,n,cs⟩,h.done⟩,⟨0,0,14,0⟩)
   else (h,⟨0,0,13,0⟩))=R
  dsimp only [stH,stB,aRq] at *
  refine ZEN Tryz.func289 Tryz.ntmps289 ?_
  repeat' (first|(refine ZAL ?_;first|refine uA ?_|refine uI [0,1,2] (cC) ?_)|refine uC ?_|fail)
  all_goals try exact ZE5
  refine AW.loopP (fun (p:Nat)=>p≤cs.length ∧ ∀j,j<p → ∀b,cs[j]? = some b→KZ h b=false) (fun (p:Nat)=>(pu (pu (pu (pu (pu (pu (fun _=>.any) 0 (.ptr 0 0)) 3 (.ptr 3 0)) 4 (.ptr 4 0)) 21 (.ln (cs.map tCs))) 22 (i64 (cs.map tCs).length)) 23 (i64 p))) (fun (p:Nat)=>[.box 295 [i64 h.ticket,.sl 1 0 m,.t (.lst (h.waits.map tWt)),.sl 2 0 k,i64 c.kind,i64 c.threads,i64 c.chans,i64 c.cap,i64 c.nodes,i64 c.retire,i64 c.patience,i64 c.tags,i64 c.seqs,i64 c.gens,.t (.lst (c.start.map tI)),i64 t,i64 n],.row 0 101 5 (h.chans.map tCh),.row 0 53 4 (h.done.map tR),.box 32 [i64 qk,i64 qa,i64 qv,bo qd,.ln (cs.map tCs)],.box 53 [i64 0,i64 0,i64 0,i64 0]]) (fun (p:Nat)=>cs.length-p) (0) ?_ ?_ ?_
  ·exact ⟨fO _,fun j hj=>by omega⟩
  ·exact Wk.cq 5
  ·rintro p ⟨hp,hno⟩
   by_cases hi:p<cs.length
   ·obtain ⟨x,hx⟩ : ∃x,cs[p]? = some x:=⟨_,ZgE hi⟩
    have hxm:=fI hx
    have hf:=h5 x hxm
    have cF:=NJ h x.handle (hq x hxm).2.1 hm1
    obtain ⟨j,ch,e1,e2,hc,hu,hgn,e3,e4,e5⟩:=JS hf
    rw [hf,e3] at cF
    have cR:=q5_ ch x.handle h.waits x.dir hh.w
    have hr:KZ h x=TI ch x.handle h.waits x.dir:=by unfold KZ;rw [e3,e4]
    rw [←hr] at cR
    have cO:=ApS c m k h t n p x (hq x hxm) hm hk hh hf
    cases hrd:KZ h x
    ·rw [hrd] at cR
     have hno' : ∀j,j<p+1 → ∀b,cs[j]? = some b→KZ h b=false:=fun j hj b hjb=>by
      by_cases ej:j=p
      ·subst ej;rw [hx] at hjb;cases hjb;exact hrd
      ·exact hno j (by omega) b hjb
     clear cO
     obtain ⟨d,hd,v⟩:=x
     obtain ⟨c1,c2,c3,c4,cb⟩:=ch
     dsimp only [aC] at cF cR
     repeat' (first|refine uA ?_|(refine ZRG ?_;first|refine uR ?_|refine ZQ1 (cF) ?_|refine ZQ1 (cR) ?_)|refine uC ?_|(first|refine AW.drawU (id:=7) mixed 0 qR ?_|refine AW.drawU (id:=8) mixed 0 qR ?_)|fail)
     all_goals try exact ZE5
     refine ⟨p+1,⟨by omega,hno'⟩,by omega,?_⟩
     exact Wk.cq 5
    ·rw [hrd] at cR
     have hix:=JG (KZ h) cs p x hno hx hrd
     rw [hix,fL (by omega),fW,BJ hx] at hR
     subst hR
     have hl1:(oneH h p x).1.chans.length=m:=by unfold oneH;rw [iJ,hm]
     obtain ⟨d,hd,v⟩:=x
     generalize oneH h p ⟨d,hd,v⟩=O at *
     obtain ⟨⟨o1,o2,o3,o4⟩,⟨r1,r2,r3,r4⟩⟩:=O
     obtain ⟨c1,c2,c3,c4,cb⟩:=ch
     dsimp only [aC,aR,aCs,stH,stB] at *
     repeat' (first|(refine ZAL ?_;first|refine uA ?_|refine uI [0,1,2] (cO) ?_)|(refine ZRG ?_;first|refine uR ?_|refine ZQ1 (cF) ?_|refine ZQ1 (cR) ?_)|refine uC ?_|(first|refine AW.drawU (id:=7) mixed 0 qR ?_|refine AW.drawU (id:=8) mixed 0 qR ?_)|fail)
     all_goals exact Aa Tryz.results289
   ·have hix:=EY (KZ h) cs fun j b hb=>hno j eJ b hb
    rw [hix,fM (by omega)] at hR
    clear hno
    cases qd
    ·rw [fM (by simp)] at hR
     by_cases htk:4294967295≤h.ticket
     ·rw [fL htk] at hR
      subst hR
      dsimp only [aR]
      repeat' (first|refine A0 ?_|fail)
      all_goals exact Aa Tryz.results289
     ·rw [fM htk] at hR
      have cP:=AtN h.waits t ⟨false,h.ticket,n,cs⟩ hh.w hq0
      dsimp only at cP
      cases hpo:HL h.waits t
      ·rw [hpo] at cP hR
       rw [fM (by simp)] at hR
       subst hR
       dsimp only [aR]
       repeat' (first|refine uA ?_|(refine ZRG ?_;first|refine uR ?_|refine uQ (cP) 5 ?_)|refine uC ?_|refine AW.drawU (id:=15) mixed 2 qR ?_|fail)
       all_goals exact Aa Tryz.results289
      ·rw [hpo] at cP hR
       rw [fL rfl] at hR
       subst hR
       have hpl:(putW h.waits t ⟨false,h.ticket,n,cs⟩).length=h.waits.length:=DL ..
       dsimp only [aR]
       generalize putW h.waits t ⟨false,h.ticket,n,cs⟩=W at *
       have cP2:Cd Tryz.prog 301 [.ln (h.waits.map tWt),i64 t,.agg [bo false,i64 h.ticket,i64 n,.ln (cs.map tCs)]] (.tup [.t (.lst (W.map tWt)),bo true]) []:=by have cP':=Cd.frz cP 0 rfl aB rfl;exact Cd.drop cP' rfl
       repeat' (first|refine uA ?_|(refine ZRG ?_;first|refine uR ?_|refine ZQ1 (cP2) ?_)|refine uC ?_|refine AW.drawU (id:=15) mixed 2 qR ?_|fail)
       all_goals exact Aa Tryz.results289
    ·rw [fL rfl] at hR
     subst hR
     dsimp only [aR]
     repeat' (first|refine A0 ?_|fail)
     all_goals exact Aa Tryz.results289
 ·rw [fL hE]
  generalize casesE h cs=E at *
  dsimp only [stH,stB,aR,aRq] at *
  refine ZEN Tryz.func289 Tryz.ntmps289 ?_
  repeat' (first|(refine ZAL ?_;first|refine uA ?_|refine uI [0,1,2] (cC) ?_)|refine uC ?_|fail)
  all_goals exact Aa Tryz.results289
end
end Go.Proofs.YtccefppppedgkaaGreat
