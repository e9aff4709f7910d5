/- Joined: XTHallB, XTHallD. -/
import Derived.Test.YtccefppppedgkaaGreatKHzc
set_option linter.unusedVariables false
set_option linter.unusedSimpArgs false
set_option linter.unnecessarySimpa false
set_option maxRecDepth 100000
set_option maxHeartbeats 64000000
namespace Go.Proofs.YtccefppppedgkaaGreat
open Go.RowKit
section
attribute [local irreducible] AL AW RG Fin C Cd Cio AI AF AO
theorem ZZ (x:BF):XM x=true ↔ ¬(x.dir=1∨x.dir=2)∨x.value<0∨4294967295<x.value:=by unfold XM;exact decide_eq_true_iff
theorem AcZ {α:Type} {p:α→Bool} {l:List α} {q:Nat} {a:α} (h:l[q]? = some a) (hp:p a=true):l.any p=true:=lN.2 ⟨a,fO h,hp⟩
theorem ZT {α:Type} {p:α→Bool} {l:List α} (h : ∀(j:Nat) b,l[j]? = some b→p b=false):l.any p=false:=by
 cases e:l.any p
 ·rfl
 ·obtain ⟨a,ha,hp⟩:=lN.1 e
  obtain ⟨j,hj⟩:=jN ha
  rw [h j a hj] at hp;cases hp
theorem AeW (c:AB) (m k:Nat) (h:AM) (t n:Int) (l:List BF) (hl : ∀x∈l,sCs x) (hl0:l.length≤1152921504606846976) (hm:h.chans.length=m) (hk:h.done.length=k) (hm1:m≤2932031007402) :
  Cio Tryz.prog 298 [.ptr 0 0,.ln (l.map tCs)] (stH c m k h t n) (i64 (casesE h l)) (stH c m k h t n):=by
 have h1:(h.chans.map tCh).length=m:=by rw [fN,hm]
 have h1k:(h.done.map tR).length=k:=by rw [fN,hk]
 have h2:(l.map tCs).length=l.length:=fN _
 dsimp only [stH,stB]
 by_cases hlen:l.length=0∨3<l.length
 ·have e:casesE h l=1:=by unfold casesE;rw [fR (by rcases hlen with h|h;exact .inl h;exact .inr (.inl h))]
  rw [e]
  by_cases h0:l.length=0
  all_goals
   refine ZEN Tryz.func298 Tryz.ntmps298 ?_
   repeat' (first|refine A0 ?_|fail)
   all_goals first|(exfalso;omega)|(exact A6 Tryz.results298)
 ·generalize hE:casesE h l=E
  refine ZEN Tryz.func298 Tryz.ntmps298 ?_
  repeat' (first|refine A0 ?_|fail)
  all_goals try exact ZE5
  refine AW.loopP (fun (q:Nat)=>q≤l.length ∧ ∀j,j<q → ∀b,l[j]? = some b→XM b=false) (fun (q:Nat)=>(pu (pu (pu (pu (pu (pu (fun _=>.any) 0 (.ptr 0 0)) 1 (.ln (l.map tCs))) 4 (i64 0)) 19 (.ln (l.map tCs))) 20 (i64 (l.map tCs).length)) 21 (i64 q))) (fun (q:Nat)=>[.box 295 [i64 h.ticket,.sl 1 0 m,.t (.lst (h.waits.map tWt)),.sl 2 0 k,i64 c.kind,i64 c.threads,i64 c.chans,i64 c.cap,i64 c.nodes,i64 c.retire,i64 c.patience,i64 c.tags,i64 c.seqs,i64 c.gens,.t (.lst (c.start.map tI)),i64 t,i64 n],.row 0 101 5 (h.chans.map tCh),.row 0 53 4 (h.done.map tR)]) (fun (q:Nat)=>l.length-q) (0) ?_ ?_ ?_
  ·exact ⟨fX _,fun j hj=>by omega⟩
  ·exact Wk.cq 3
  ·rintro q ⟨hq,hno⟩
   by_cases hi:q<l.length
   ·obtain ⟨⟨d,hd,v⟩,hx⟩ : ∃x,l[q]? = some x:=⟨_,ZgE hi⟩
    cases hb:XM ⟨d,hd,v⟩
    ·have hb2 : ¬(¬(d=1∨d=2)∨v<0∨4294967295<v):=fun e=>by rw [(ZZ ⟨d,hd,v⟩).2 e] at hb;cases hb
     have hno' : ∀j,j<q+1 → ∀b,l[j]? = some b→XM b=false:=fun j hj b hjb=>by
      by_cases ej:j=q
      ·subst ej;rw [hx] at hjb;cases hjb;exact hb
      ·exact hno j (by omega) b hjb
     by_cases d1:d=1
     all_goals
      repeat' (first|refine A0 ?_|fail)
      all_goals try exact ZE5
      refine ⟨q+1,⟨by omega,hno'⟩,by omega,?_⟩
      exact Wk.cq 3
    ·have hb2:=(ZZ ⟨d,hd,v⟩).1 hb
     dsimp only at hb2
     have e:E=1:=by rw [←hE];unfold casesE;rw [fR (.inr (.inr (AcZ hx hb)))]
     subst e
     by_cases d1:d=1
     ·by_cases v1:v<0
      all_goals
       repeat' (first|refine A0 ?_|fail)
       all_goals first|(exfalso;omega)|(exact A6 Tryz.results298)
     ·by_cases d2:d=2
      ·by_cases v1:v<0
       all_goals
        repeat' (first|refine A0 ?_|fail)
        all_goals first|(exfalso;omega)|(exact A6 Tryz.results298)
      ·repeat' (first|refine A0 ?_|fail)
       all_goals exact A2 Tryz.results298
   ·have hbad:l.any XM=false:=ZT fun j b hj=>hno j eY b hj
    clear hno
    repeat' (first|refine A0 ?_|fail)
    all_goals try exact ZE5
    refine AW.loopP (fun (p:Nat)=>p≤l.length ∧ ∀j,j<p → ∀b,l[j]? = some b→DJ h b.handle=true) (fun (p:Nat)=>(pu (pu (pu (pu (pu (fun _=>.any) 0 (.ptr 0 0)) 4 (i64 0)) 44 (.ln (l.map tCs))) 45 (i64 (l.map tCs).length)) 46 (i64 p))) (fun (p:Nat)=>[.box 295 [i64 h.ticket,.sl 1 0 m,.t (.lst (h.waits.map tWt)),.sl 2 0 k,i64 c.kind,i64 c.threads,i64 c.chans,i64 c.cap,i64 c.nodes,i64 c.retire,i64 c.patience,i64 c.tags,i64 c.seqs,i64 c.gens,.t (.lst (c.start.map tI)),i64 t,i64 n],.row 0 101 5 (h.chans.map tCh),.row 0 53 4 (h.done.map tR)]) (fun (p:Nat)=>l.length-p) (0) ?_ ?_ ?_
    ·exact ⟨fX _,fun j hj=>by omega⟩
    ·exact Wk.cq 3
    ·rintro p ⟨hp,hno⟩
     by_cases hi:p<l.length
     ·obtain ⟨⟨d,hd,v⟩,hx⟩ : ∃x,l[p]? = some x:=⟨_,ZgE hi⟩
      have cF:=OH h hd (hl _ (fO hx)).2.1 (by omega)
      cases hf:DJ h hd
      ·rw [hf] at cF
       have e:E=8:=by rw [←hE];unfold casesE;rw [hbad,fT (by rintro (h|h|h);exact hlen (.inl h);exact hlen (.inr h);cases h),fR (AcZ hx (by simp [hf]))]
       subst e
       repeat' (first|refine F9 ?_|fail)
       all_goals exact A2 Tryz.results298
      ·rw [hf] at cF
       have hno' : ∀j,j<p+1 → ∀b,l[j]? = some b→DJ h b.handle=true:=fun j hj b hjb=>by
        by_cases ej:j=p
        ·subst ej;rw [hx] at hjb;cases hjb;exact hf
        ·exact hno j (by omega) b hjb
       repeat' (first|refine F9 ?_|fail)
       all_goals try exact ZE5
       refine ⟨p+1,⟨by omega,hno'⟩,by omega,?_⟩
       exact Wk.cq 3
     ·have e:E=0:=by rw [←hE];unfold casesE;rw [hbad,fT (by rintro (h|h|h);exact hlen (.inl h);exact hlen (.inr h);cases h),ZT fun j b hj=>by simp [hno j eY b hj]];rfl
      subst e
      repeat' (first|refine A0 ?_|fail)
      all_goals exact A2 Tryz.results298
abbrev aCs (x:BF):AV:=.agg [i64 x.dir,i64 x.handle,i64 x.value]
theorem AsE (c:AB) (m k:Nat) (h:AM) (t n which:Int) (x:BF) (hx:sCs x) (hm:h.chans.length=m) (hk:h.done.length=k) (hh:OO h) (hf:DJ h x.handle=true) :
  Cio Tryz.prog 300 [.ptr 0 0,i64 which,aCs x] (stH c m k h t n) (aR (oneH h which x).2) (stH c m k (oneH h which x).1 t n):=by
 have h1:(h.chans.map tCh).length=m:=by rw [fN,hm]
 have h1k:(h.done.map tR).length=k:=by rw [fN,hk]
 have hm1:=hh.c
 have hk1:=hh.d
 have cF:=OH h x.handle hx.2.1 hm1
 obtain ⟨j,ch,e1,e2,hc,hu,hgn,e3,e4,e5⟩:=KF hf
 have hb:=hh.b ch (fO hc)
 have cD:=BcD ch x.handle h.waits x.dir x.value hh.w hb
 obtain ⟨hg1,hg2,hg3,hg4⟩ := @ArU ch x.handle h.waits x.dir x.value hh.w
 unfold oneH XW
 rw [hf,e3] at cF
 rw [e3,e4,gE]
 generalize doG ch x.handle h.waits x.dir x.value=g at *
 obtain ⟨⟨g1,g2,g3,g4,gb⟩,gl,⟨r1,r2,r3,r4⟩,gt⟩:=g
 obtain ⟨d,hd,v⟩:=x
 obtain ⟨c1,c2,c3,c4,cb⟩:=ch
 dsimp only at *
 have cT:=o7_ c m k ⟨h.ticket,h.chans.set j ⟨g1,g2,g3,g4,gb⟩,gl,h.done⟩ t n gt hk (by omega) (by omega)
 unfold gA at cD
 dsimp only [stH,stB,aR,aCs,aC] at *
 refine ZEN Tryz.func300 Tryz.ntmps300 ?_
 repeat' (first|(refine ZAL ?_;first|(refine kL 99 rfl ?_;first|refine A_store_rp rfl rfl 3 _ _ rfl inf3 (by decide) rfl rfl fL rfl rfl rfl (ZbT rfl) bX qN ?_)|(refine kL 1699 rfl ?_;first|refine A_store_rp rfl rfl 53 _ _ rfl inf53 (by decide) rfl rfl fL rfl rfl rfl (ZbT rfl) bX qN ?_)|refine uA ?_|refine uI [0,1,2] (cT) ?_)|(refine ZRG ?_;first|(refine kR 3235 rfl ?_;first|refine R_store_rp rfl rfl 101 _ _ rfl inf101 (by decide) rfl rfl fL rfl rfl rfl (ZbT rfl) bX qN ?_)|(refine kR 1699 rfl ?_;first|refine R_store_rp rfl rfl 53 _ _ rfl inf53 (by decide) rfl rfl fL rfl rfl rfl (ZbT rfl) bX qN ?_)|(refine kR 3011 rfl ?_;first|refine R_store_rp rfl rfl 94 _ _ rfl c3_ (by decide) rfl rfl fL rfl rfl rfl (ZbT rfl) bX qN ?_)|refine uR ?_|refine AT (cF) ?_|refine AT (cD) ?_)|refine uC ?_|(first|refine AW.drawU (id:=1) mixed 0 qR ?_|refine AW.drawU (id:=2) mixed 2 qR ?_|refine AW.drawU (id:=3) mixed 0 qR ?_)|refine ZK2 (fun hc=>?_) (fun hc=>?_)|fail)
 all_goals first|(exfalso;omega)|((first|exact Bi Tryz.results300|refine Fin.q Tryz.results300 (.cons (.agg rfl rfl ud53 rfl inf53 (us:=[_,_,_,_]) rfl rfl) .nil) [] (hr:=(.t ?_))|refine Dq Tryz.results300 ?_ ?_ ?_<;>repeat' (first|exact ZE1|refine ZE2 ?_ ?_|refine ZE3 ?_|exact ZE4|fail)))
theorem AdS (c:AB) (m k:Nat) (h:AM) (t n:Int) (q:AU) (hq : ∀x∈q.cases,sCs x) (hq0:q.cases.length≤5864062014805) (ht : -9223372036854775808≤h.ticket) (hm:h.chans.length=m) (hk:h.done.length=k) (hh:OO h) :
  Cio Tryz.prog 289 [.ptr 0 0,aRq q] (stH c m k h t n) (aR (chooseH h t n q).2) (stH c m k (chooseH h t n q).1 t n):=by
 have h1:(h.chans.map tCh).length=m:=by rw [fN,hm]
 have h1k:(h.done.map tR).length=k:=by rw [fN,hk]
 have h2:(q.cases.map tCs).length=q.cases.length:=fN _
 have hm1:=hh.c
 have cC:=AeW c m k h t n q.cases hq (by omega) hm hk (by omega)
 unfold chooseH
 obtain ⟨qk,qa,qv,qd,cs⟩:=q
 dsimp only at *
 by_cases hE:casesE h cs=0
 ·rw [hE] at cC
  rw [fT (by omega)]
  obtain ⟨h3,h4, -,h5⟩:=a2_ hE
  generalize hR:(if 0≤ixF (LO h) cs then oneH h (ixF (LO h) cs) (cs.getD (ixF (LO h) cs).toNat default)
   else if qd then (h,(⟨0,0,10,0⟩:Rst))
   else if 4294967295≤h.ticket then (h,⟨0,0,7,0⟩)
   else if IA h.waits t then (⟨h.ticket+1,h.chans,putW h.waits t ⟨false,h.ticket,n,cs⟩,h.done⟩,⟨0,0,14,0⟩)
   else (h,⟨0,0,13,0⟩))=R
  dsimp only [stH,stB,aRq] at *
  refine ZEN Tryz.func289 Tryz.ntmps289 ?_
  repeat' (first|(refine ZAL ?_;first|refine uA ?_|refine uI [0,1,2] (cC) ?_)|refine uC ?_|fail)
  all_goals try exact ZE5
  refine AW.loopP (fun (p:Nat)=>p≤cs.length ∧ ∀j,j<p → ∀b,cs[j]? = some b→LO h b=false) (fun (p:Nat)=>(pu (pu (pu (pu (pu (pu (fun _=>.any) 0 (.ptr 0 0)) 3 (.ptr 3 0)) 4 (.ptr 4 0)) 21 (.ln (cs.map tCs))) 22 (i64 (cs.map tCs).length)) 23 (i64 p))) (fun (p:Nat)=>[.box 295 [i64 h.ticket,.sl 1 0 m,.t (.lst (h.waits.map tWt)),.sl 2 0 k,i64 c.kind,i64 c.threads,i64 c.chans,i64 c.cap,i64 c.nodes,i64 c.retire,i64 c.patience,i64 c.tags,i64 c.seqs,i64 c.gens,.t (.lst (c.start.map tI)),i64 t,i64 n],.row 0 101 5 (h.chans.map tCh),.row 0 53 4 (h.done.map tR),.box 32 [i64 qk,i64 qa,i64 qv,bo qd,.ln (cs.map tCs)],.box 53 [i64 0,i64 0,i64 0,i64 0]]) (fun (p:Nat)=>cs.length-p) (0) ?_ ?_ ?_
  ·exact ⟨fX _,fun j hj=>by omega⟩
  ·exact Wk.cq 5
  ·rintro p ⟨hp,hno⟩
   by_cases hi:p<cs.length
   ·obtain ⟨x,hx⟩ : ∃x,cs[p]? = some x:=⟨_,ZgE hi⟩
    have hxm:=fO hx
    have hf:=h5 x hxm
    have cF:=OH h x.handle (hq x hxm).2.1 hm1
    obtain ⟨j,ch,e1,e2,hc,hu,hgn,e3,e4,e5⟩:=KF hf
    rw [hf,e3] at cF
    have cR:=v_ ch x.handle h.waits x.dir hh.w
    have hr:LO h x=UX ch x.handle h.waits x.dir:=by unfold LO;rw [e3,e4]
    rw [←hr] at cR
    have cO:=AsE c m k h t n p x (hq x hxm) hm hk hh hf
    cases hrd:LO h x
    ·rw [hrd] at cR
     have hno' : ∀j,j<p+1 → ∀b,cs[j]? = some b→LO h b=false:=fun j hj b hjb=>by
      by_cases ej:j=p
      ·subst ej;rw [hx] at hjb;cases hjb;exact hrd
      ·exact hno j (by omega) b hjb
     clear cO
     obtain ⟨d,hd,v⟩:=x
     obtain ⟨c1,c2,c3,c4,cb⟩:=ch
     dsimp only [aC] at cF cR
     repeat' (first|refine uA ?_|(refine ZRG ?_;first|refine uR ?_|refine ZQ1 (cF) ?_|refine ZQ1 (cR) ?_)|refine uC ?_|(first|refine AW.drawU (id:=7) mixed 0 qR ?_|refine AW.drawU (id:=8) mixed 0 qR ?_)|fail)
     all_goals try exact ZE5
     refine ⟨p+1,⟨by omega,hno'⟩,by omega,?_⟩
     exact Wk.cq 5
    ·rw [hrd] at cR
     have hix:=JU (LO h) cs p x hno hx hrd
     rw [hix,fR (by omega),gE,BK hx] at hR
     subst hR
     have hl1:(oneH h p x).1.chans.length=m:=by unfold oneH;rw [iS,hm]
     obtain ⟨d,hd,v⟩:=x
     generalize oneH h p ⟨d,hd,v⟩=O at *
     obtain ⟨⟨o1,o2,o3,o4⟩,⟨r1,r2,r3,r4⟩⟩:=O
     obtain ⟨c1,c2,c3,c4,cb⟩:=ch
     dsimp only [aC,aR,aCs,stH,stB] at *
     repeat' (first|(refine ZAL ?_;first|refine uA ?_|refine uI [0,1,2] (cO) ?_)|(refine ZRG ?_;first|refine uR ?_|refine ZQ1 (cF) ?_|refine ZQ1 (cR) ?_)|refine uC ?_|(first|refine AW.drawU (id:=7) mixed 0 qR ?_|refine AW.drawU (id:=8) mixed 0 qR ?_)|fail)
     all_goals exact Aa Tryz.results289
   ·have hix:=FI (LO h) cs fun j b hb=>hno j eM b hb
    rw [hix,fT (by omega)] at hR
    clear hno
    cases qd
    ·rw [fT (by simp)] at hR
     by_cases htk:4294967295≤h.ticket
     ·rw [fR htk] at hR
      subst hR
      dsimp only [aR]
      repeat' (first|refine A0 ?_|fail)
      all_goals exact Aa Tryz.results289
     ·rw [fT htk] at hR
      have cP:=AwB h.waits t ⟨false,h.ticket,n,cs⟩ hh.w hq0
      dsimp only at cP
      cases hpo:IA h.waits t
      ·rw [hpo] at cP hR
       rw [fT (by simp)] at hR
       subst hR
       dsimp only [aR]
       repeat' (first|refine uA ?_|(refine ZRG ?_;first|refine uR ?_|refine uQ (cP) 5 ?_)|refine uC ?_|refine AW.drawU (id:=15) mixed 2 qR ?_|fail)
       all_goals exact Aa Tryz.results289
      ·rw [hpo] at cP hR
       rw [fR rfl] at hR
       subst hR
       have hpl:(putW h.waits t ⟨false,h.ticket,n,cs⟩).length=h.waits.length:=DR ..
       dsimp only [aR]
       generalize putW h.waits t ⟨false,h.ticket,n,cs⟩=W at *
       have cP2:Cd Tryz.prog 301 [.ln (h.waits.map tWt),i64 t,.agg [bo false,i64 h.ticket,i64 n,.ln (cs.map tCs)]] (.tup [.t (.lst (W.map tWt)),bo true]) []:=by have cP':=Cd.frz cP 0 rfl aB rfl;exact Cd.drop cP' rfl
       repeat' (first|refine uA ?_|(refine ZRG ?_;first|refine uR ?_|refine ZQ1 (cP2) ?_)|refine uC ?_|refine AW.drawU (id:=15) mixed 2 qR ?_|fail)
       all_goals exact Aa Tryz.results289
    ·rw [fR rfl] at hR
     subst hR
     dsimp only [aR]
     repeat' (first|refine A0 ?_|fail)
     all_goals exact Aa Tryz.results289
 ·rw [fR hE]
  generalize casesE h cs=E at *
  dsimp only [stH,stB,aR,aRq] at *
  refine ZEN Tryz.func289 Tryz.ntmps289 ?_
  repeat' (first|(refine ZAL ?_;first|refine uA ?_|refine uI [0,1,2] (cC) ?_)|refine uC ?_|fail)
  all_goals exact Aa Tryz.results289
theorem AoA {c:AY} {x:Int} {l:List AH} (hl:okW l):okW (shutG c x l).l∧(shutG c x l).l.length=l.length∧(shutG c x l).c.buf=c.buf∧(shutG c x l).told.length≤l.length:=by
 unfold shutG
 split
 ·have:=AkS (onS l x) l hl
  exact ⟨this.1,this.2,rfl,by dsimp only;rw [fN];exact (AhC l x).2.1⟩
 ·exact ⟨hl,rfl,rfl,fX _⟩
theorem BaN (l:List AH) (h:Int) (hl:okW l):Cd Tryz.prog 305 [.ln (l.map tWt),i64 h] (.sl 0 0 (onS l h).length) [.row 0 3 1 ((onS l h).map tI)]:=by
 have:=t8_ l h hl
 rw [←CC (key:=tick l)] at this
 exact this
theorem AlK (c:AB) (m k:Nat) (h:AM) (t n x:Int) (hx:sI x) (hm:h.chans.length=m) (hk:h.done.length=k) (hh:OO h) :
  Cio Tryz.prog 290 [.ptr 0 0,i64 x] (stH c m k h t n) (aR (closeH h x).2) (stH c m k (closeH h x).1 t n):=by
 have h1:(h.chans.map tCh).length=m:=by rw [fN,hm]
 have h1k:(h.done.map tR).length=k:=by rw [fN,hk]
 have hm1:=hh.c
 have hk1:=hh.d
 have hw0:=hh.w.1
 have cF:=OH h x hx hm1
 unfold closeH
 cases hf:DJ h x
 ·rw [fT (by simp)]
  rw [hf,SI hf] at cF
  dsimp only [stH,stB,aR]
  refine ZEN Tryz.func290 Tryz.ntmps290 ?_
  repeat' (first|refine Bm ?_|fail)
  all_goals exact Aa Tryz.results290
 ·obtain ⟨j,ch,e1,e2,hc,hu,hgn,e3,e4,e5⟩:=KF hf
  rw [fR rfl,e3,e4,gE]
  rw [hf,e3] at cF
  have hb:=hh.b ch (fO hc)
  have cS:=AvN ch x h.waits hh.w hb (BaN h.waits x hh.w)
  obtain ⟨hg1,hg2,hg3,hg4⟩ := @AoA ch x h.waits hh.w
  generalize shutG ch x h.waits=g at *
  obtain ⟨⟨g1,g2,g3,g4,gb⟩,gl,ge,gt⟩:=g
  obtain ⟨c1,c2,c3,c4,cb⟩:=ch
  dsimp only at *
  have cT:=o7_ c m k ⟨h.ticket,h.chans.set j ⟨g1,g2,g3,g4,gb⟩,gl,h.done⟩ t n gt hk (by omega) (by omega)
  unfold sA at cS
  dsimp only [stH,stB,aR,aC] at *
  refine ZEN Tryz.func290 Tryz.ntmps290 ?_
  repeat' (first|(refine ZAL ?_;first|refine uA ?_|refine uK (cF) ?_|refine uI [0,1,2] (cT) ?_)|(refine ZRG ?_;first|(refine kR 3235 rfl ?_;first|refine R_store_rp rfl rfl 101 _ _ rfl inf101 (by decide) rfl rfl (by exact map_get dG) rfl rfl rfl (ZbT rfl) (by exact map_set (f:=tCh) (x:=⟨g1,g2,g3,g4,gb⟩)) qN ?_)|refine uR ?_|refine ZQ1 (cS) ?_)|refine uC ?_|(first|refine AW.drawU (id:=4) mixed 1 qR ?_|refine AW.drawU (id:=5) mixed 0 qR ?_)|fail)
  all_goals exact Aa Tryz.results290
theorem AtC (c:AB) (m k:Nat) (h:AM) (t n:Int) (q:AU) (hx:sI q.arg) (hm:h.chans.length=m) (hk:h.done.length=k) (hm1:m≤2932031007402) :
  Cio Tryz.prog 291 [.ptr 0 0,aRq q] (stH c m k h t n) (aR (lookH h q)) (stH c m k h t n):=by
 have h1:(h.chans.map tCh).length=m:=by rw [fN,hm]
 have h1k:(h.done.map tR).length=k:=by rw [fN,hk]
 obtain ⟨qk,qa,qv,qd,cs⟩:=q
 dsimp only at hx
 have cF:=OH h qa hx (by omega)
 unfold lookH
 dsimp only
 cases hf:DJ h qa
 ·rw [fT (by simp)]
  rw [hf,SI hf] at cF
  dsimp only [stH,stB,aR,aRq]
  refine ZEN Tryz.func291 Tryz.ntmps291 ?_
  repeat' (first|refine uA ?_|(refine ZRG ?_;first|refine uR ?_|refine ZQ1 (cF) ?_)|refine uC ?_|refine AW.drawU (id:=1) mixed 2 qR ?_|fail)
  all_goals exact Aa Tryz.results291
 ·obtain ⟨j,ch,e1,e2,hc,hu,hgn,e3,e4,e5⟩:=KF hf
  rw [fR rfl,e3,e4]
  rw [hf,e3] at cF
  obtain ⟨c1,c2,c3,c4,cb⟩:=ch
  have hbl:(cb.map tI).length=cb.length:=fN _
  by_cases hk6:qk=6
  ·rw [fR hk6]
   dsimp only [stH,stB,aR,aRq]
   refine ZEN Tryz.func291 Tryz.ntmps291 ?_
   repeat' (first|refine Fa ?_|fail)
   all_goals exact Aa Tryz.results291
  ·rw [fT hk6]
   dsimp only [stH,stB,aR,aRq]
   refine ZEN Tryz.func291 Tryz.ntmps291 ?_
   repeat' (first|refine Fa ?_|fail)
   all_goals first|(exfalso;omega)|((refine Dq Tryz.results291 ?_ ?_ ?_<;>repeat' (first|exact ZE1|refine ZE2 ?_ ?_|refine ZE3 ?_|exact ZE4|fail)))
   all_goals (rw [hbl])
theorem AdN (c:AB) (m k:Nat) (h:AM) (me n t v:Int) (hm:h.chans.length=m) (hk:h.done.length=k) (hh:OO h) :
  Cio Tryz.prog 292 [.ptr 0 0,i64 t,i64 v] (stH c m k h me n) (aR (cancelH h me t v).2) (stH c m k (cancelH h me t v).1 me n):=by
 have h1:(h.waits.map tWt).length=h.waits.length:=fN _
 have hk1:=hh.d
 have hw0:=hh.w.1
 unfold cancelH m2_
 by_cases ht:0≤t∧t<h.waits.length
 ·obtain ⟨j,rfl⟩ : ∃j:Nat,t=j:=⟨t.toNat,by omega⟩
  obtain ⟨⟨on,tk,sq,cs⟩,hw⟩ : ∃w,h.waits[j]? = some w:=⟨_,ZgE (by omega)⟩
  rw [gE,BK hw]
  cases on
  ·rw [OD hw rfl,jH,jH,fT (by simp)]
   by_cases hme:(j:Int)=me
   ·subst hme
    dsimp only [stH,stB,aR]
    refine Bk ?_
    repeat' (first|refine A0 ?_|fail)
    all_goals exact Aa Tryz.results292
   ·dsimp only [stH,stB,aR]
    refine Bk ?_
    repeat' (first|refine A0 ?_|fail)
    all_goals exact Aa Tryz.results292
  ·rw [EM hw rfl,kM]
   by_cases hme:(j:Int)=me
   ·subst hme
    rw [fZ (by simp),jH,fT (by simp)]
    dsimp only [stH,stB,aR]
    refine Bk ?_
    repeat' (first|refine A0 ?_|fail)
    all_goals exact Aa Tryz.results292
   ·rw [fW hme,kM]
    dsimp only
    by_cases hv:sq=v
    ·subst hv
     rw [fW rfl,fR rfl]
     have cX0:=ZI h.waits j hh.w
     have hcl:(cutW h.waits j).length=h.waits.length:=CQ ..
     rw [EM hw rfl] at cX0
     have cT:=o7_ c m k ⟨h.ticket,h.chans,cutW h.waits j,h.done⟩ me n [⟨j,⟨sq,0,11,0⟩⟩] hk (by simp) (by omega)
     dsimp only at cT ⊢
     generalize cutW h.waits j=W at *
     have cX:Cd Tryz.prog 304 [.ln (h.waits.map tWt),i64 j] (.tup [.t (.lst (W.map tWt)),bo true]) []:=by have cX0':=Cd.frz cX0 0 rfl aB rfl;exact Cd.drop cX0' rfl
     rw [show tellL h.done [⟨j,⟨sq,0,11,0⟩⟩]=GG h.done j ⟨sq,0,11,0⟩ from rfl] at cT
     dsimp only [stH,stB,aR] at *
     refine Bk ?_
     repeat' (first|(refine ZAL ?_;first|(refine kL 6415 rfl ?_;first|(refine A_lit (d:=72) rfl rfl 200 1 _ rfl ud200 inf239 (.cons rfl .nil) (els:=[[_,_,_,_,_]]) rfl (by first|exact (rfl:_=List.map tTd [⟨j,⟨sq,0,11,0⟩⟩])|exact qN) rfl (gB rfl) (ZbT rfl) (ZbT rfl) (.push qL qN) ?_;(try refine uf 4 72 ?_)))|(refine kL 1699 rfl ?_;first|refine A_store_rp rfl rfl 53 _ _ rfl inf53 (by decide) rfl rfl (by first|exact map_get dG|assumption|exact map_get hw) rfl rfl rfl (ZbT rfl) (by first|exact map_set (f:=tTd) (x:=⟨j,⟨sq,0,11,0⟩⟩)|exact qN) qN ?_)|(refine kL 3011 rfl ?_;first|refine A_store_rp rfl rfl 94 _ _ rfl c3_ (by decide) rfl rfl (by first|exact map_get dG|assumption|exact map_get hw) rfl rfl rfl (ZbT rfl) (by first|exact map_set (f:=tTd) (x:=⟨j,⟨sq,0,11,0⟩⟩)|exact qN) qN ?_)|refine uA ?_|refine uK (cX) ?_|refine uI [0,1,2] (cT) ?_)|refine uC ?_|refine uS 9 (fun hb=>?_) (fun hb=>?_)|refine uS 19 (fun hb=>?_) (fun hb=>?_)|refine uS 27 (fun hb=>?_) (fun hb=>?_)|refine uS 39 (fun hb=>?_) (fun hb=>?_)|refine ZK2 (fun hc=>?_) (fun hc=>?_)|fail)
     all_goals exact Aa Tryz.results292
    ·rw [fZ hv,fT (by simp)]
     dsimp only [stH,stB,aR]
     refine Bk ?_
     repeat' (first|refine A0 ?_|fail)
     all_goals exact Aa Tryz.results292
 ·rw [OE ht,jH,jH,fT (by simp)]
  dsimp only [stH,stB,aR]
  by_cases h0:t<0
  all_goals
   refine Bk ?_
   repeat' (first|refine A0 ?_|fail)
   all_goals first|(exfalso;omega)|(exact Bi Tryz.results292)
theorem ArQ (c:AB) (m k:Nat) (h:AM) (t n:Int) (q:AU) (hq:okQ h q) (hm:h.chans.length=m) (hk:h.done.length=k) (hh:OO h) :
  Cio Tryz.prog 277 [.ptr 0 0,aRq q] (stH c m k h t n) (aR (callH c h t n q).2) (stH c m k (callH c h t n q).1 t n):=by
 have hm1:=hh.c
 have x1:=AtT c m k h t n q.arg hm (by omega) hq.g
 have x2:=ArY c m k h t n q.arg hq.a hm hk (by omega) hh.w
 have x3:=AdS c m k h t n q hq.c hq.l hq.t hm hk hh
 have x4:=AlK c m k h t n q.arg hq.a hm hk hh
 have x5:=AtC c m k h t n q hq.a hm hk (by omega)
 have x7:=AdN c m k h t n q.arg q.value hm hk hh
 unfold callH
 obtain ⟨qk,qa,qv,qd,cs⟩:=q
 dsimp only at *
 by_cases k1:qk=1
 ·rw [fR k1]
  generalize openH c h qa=O at *
  obtain ⟨⟨o1,o2,o3,o4⟩,⟨r1,r2,r3,r4⟩⟩:=O
  dsimp only [stH,stB,aR,aRq] at *
  clear x2 x3 x4 x5 x7
  refine B7 ?_
  repeat' (first|(refine ZAL ?_;first|refine uA ?_|refine uI [0,1,2] (x1) ?_)|refine uC ?_|fail)
  all_goals exact Aa Tryz.results277
 ·rw [fT k1]
  by_cases k2:qk=2
  ·rw [fR k2]
   generalize freeH h qa=O at *
   obtain ⟨⟨o1,o2,o3,o4⟩,⟨r1,r2,r3,r4⟩⟩:=O
   dsimp only [stH,stB,aR,aRq] at *
   clear x1 x3 x4 x5 x7
   refine B7 ?_
   repeat' (first|(refine ZAL ?_;first|refine uA ?_|refine uI [0,1,2] (x2) ?_)|refine uC ?_|fail)
   all_goals exact Aa Tryz.results277
  ·rw [fT k2]
   by_cases k3:qk=3
   ·rw [fR k3]
    generalize chooseH h t n ⟨qk,qa,qv,qd,cs⟩=O at *
    obtain ⟨⟨o1,o2,o3,o4⟩,⟨r1,r2,r3,r4⟩⟩:=O
    dsimp only [stH,stB,aR,aRq] at *
    clear x2 x1 x4 x5 x7
    refine B7 ?_
    repeat' (first|(refine ZAL ?_;first|refine uA ?_|refine uI [0,1,2] (x3) ?_)|refine uC ?_|fail)
    all_goals exact Aa Tryz.results277
   ·rw [fT k3]
    by_cases k4:qk=4
    ·rw [fR k4]
     generalize closeH h qa=O at *
     obtain ⟨⟨o1,o2,o3,o4⟩,⟨r1,r2,r3,r4⟩⟩:=O
     dsimp only [stH,stB,aR,aRq] at *
     clear x2 x3 x1 x5 x7
     refine B7 ?_
     repeat' (first|(refine ZAL ?_;first|refine uA ?_|refine uI [0,1,2] (x4) ?_)|refine uC ?_|fail)
     all_goals exact Aa Tryz.results277
    ·rw [fT k4]
     by_cases k5:qk=5∨qk=6
     ·rw [fR k5]
      generalize lookH h ⟨qk,qa,qv,qd,cs⟩=O at *
      obtain ⟨r1,r2,r3,r4⟩:=O
      dsimp only [stH,stB,aR,aRq] at *
      clear x2 x3 x4 x1 x7
      by_cases k6:qk=5
      all_goals
       refine B7 ?_
       repeat' (first|(refine ZAL ?_;first|refine uA ?_|refine uI [0,1,2] (x5) ?_)|refine uC ?_|fail)
       all_goals first|(exfalso;omega)|(exact Bi Tryz.results277)
     ·rw [fT k5]
      by_cases k7:qk=7
      ·rw [fR k7]
       generalize cancelH h t qa qv=O at *
       obtain ⟨⟨o1,o2,o3,o4⟩,⟨r1,r2,r3,r4⟩⟩:=O
       dsimp only [stH,stB,aR,aRq] at *
       clear x2 x3 x4 x5 x1
       refine B7 ?_
       repeat' (first|(refine ZAL ?_;first|refine uA ?_|refine uI [0,1,2] (x7) ?_)|refine uC ?_|fail)
       all_goals exact Aa Tryz.results277
      ·rw [fT k7]
       dsimp only [stH,stB,aR,aRq] at *
       clear x1 x2 x3 x4 x5 x7
       refine B7 ?_
       repeat' (first|refine A0 ?_|fail)
       all_goals exact Aa Tryz.results277
theorem AkC (c:AB) (h:AM) (t n:Int) (q:AU) (hq:okQ h q) (hh:OO h) :
  Cd Tryz.prog 264 [fCf c,aHl h,i64 t,i64 n,aRq q] (.agg [i64 (applyH c h t n q).ticket,.sl 0 0 h.chans.length,.t (.lst ((applyH c h t n q).waits.map tWt)),.sl 1 0 h.done.length]) [.row 0 101 5 ((applyH c h t n q).chans.map tCh),.row 0 53 4 ((applyH c h t n q).done.map tR)]:=by
 have cK:=AlI h hh
 have cL:=ArQ c h.chans.length h.done.length h t n q hq rfl rfl hh
 obtain ⟨h1,h2⟩:=VF c h t n q
 have hk1:=hh.d
 unfold applyH
 generalize callH c h t n q=O at *
 obtain ⟨⟨o1,o2,o3,o4⟩,⟨r1,r2,r3,r4⟩⟩:=O
 obtain ⟨qk,qa,qv,qd,cs⟩:=q
 dsimp only at *
 have h3:(o4.map tR).length=h.done.length:=by rw [fN,h2]
 have h4:(o2.map tCh).length=h.chans.length:=by rw [fN,h1]
 generalize hM:h.chans.length=m at *
 generalize hK:h.done.length=k at *
 dsimp only [stH,stB,aR,aRq,fCf] at *
 by_cases ht:0≤t∧t<k
 ·obtain ⟨j,rfl⟩ : ∃j:Nat,t=j:=⟨t.toNat,by omega⟩
  rw [e5_ (by omega)]
  obtain ⟨y,hy⟩ : ∃y,o4[j]? = some y:=⟨_,ZgE (by omega)⟩
  refine ZEN Tryz.func264 Tryz.ntmps264 ?_
  repeat' (first|(refine ZAL ?_;first|refine uA ?_|refine uI [6,4,5] (cL) ?_)|(refine ZRG ?_;first|(refine kR 1699 rfl ?_;first|refine R_store_rp rfl rfl 53 _ _ rfl inf53 (by decide) rfl rfl (by exact map_get dG) rfl rfl rfl (ZbT rfl) (by exact map_set (f:=tR) (x:=⟨n,r2,r3,r4⟩)) qN ?_)|refine uR ?_|refine uQ (cK) 4 ?_)|refine uC ?_|(first|refine AW.drawU (id:=1) mixed 3 qR ?_|refine AW.drawU (id:=5) mixed 0 qR ?_)|fail)
  all_goals first|(exfalso;omega)|(exact Fin.q Tryz.results264 (.cons (.agg rfl rfl ud97 rfl inf97 (us:=[_,_,_,_]) rfl rfl) .nil) [4,5])
 ·rw [WC (by omega)]
  by_cases h0:0≤t
  all_goals
   refine ZEN Tryz.func264 Tryz.ntmps264 ?_
   repeat' (first|(refine ZAL ?_;first|refine uA ?_|refine uI [6,4,5] (cL) ?_)|(refine ZRG ?_;first|refine uR ?_|refine uQ (cK) 4 ?_)|refine uC ?_|refine AW.drawU (id:=1) mixed 3 qR ?_|fail)
   all_goals first|(exfalso;omega)|(exact Fin.q Tryz.results264 (.cons (.agg rfl rfl ud97 rfl inf97 (us:=[_,_,_,_]) rfl rfl) .nil) [4,5])
end
end Go.Proofs.YtccefppppedgkaaGreat
