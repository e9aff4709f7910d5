/- Joined: XTWaits, XTFirst, XTFirstR. -/
import Derived.Test.YtccefppppedgkaaGreatKHi
set_option linter.unusedVariables false
set_option linter.unusedSimpArgs false
set_option linter.unnecessarySimpa false
set_option maxRecDepth 100000
set_option maxHeartbeats 64000000
namespace Go.Proofs.YtccefppppedgkaaGreat
open Go.RowKit
section
attribute [local irreducible] AL AW RG Fin C Cd Cio AI AF AO
section
variable {l:List AH} {a:AH}
theorem AiJ {q:Nat} (h:l[q]? = some a):l.set q ⟨a.on,a.ticket,a.seq,a.cases⟩=l:=by
 obtain ⟨hq,e⟩:=iJ.1 h
 rw [←e];exact List.set_getElem_self hq
variable {n:Nat}
theorem WI (h:l[n]? = some a) (ho:a.on=false):IA l n=true:=by
 have:=get_lt h
 unfold IA;rw [gE,BK h];exact fW ⟨by omega,by omega,ho⟩
theorem f6_ (h:l[n]? = some a) (ho:a.on=true):IA l n=false:=by
 unfold IA;rw [gE,BK h];exact fZ fun k=>by rw [ho] at k;simp at k
theorem WH {t:Int} (h : ¬(0≤t∧t<l.length)):IA l t=false:=by unfold IA;exact fZ fun k=>h ⟨k.1,k.2.1⟩
theorem EM (h:l[n]? = some a) (ho:a.on=true):JJ l n=true:=by
 have:=get_lt h
 unfold JJ;rw [gE,BK h];exact fW ⟨by omega,by omega,ho⟩
theorem OD (h:l[n]? = some a) (ho:a.on=false):JJ l n=false:=by
 unfold JJ;rw [gE,BK h];exact fZ fun k=>by rw [ho] at k;simp at k
theorem OE {t:Int} (h : ¬(0≤t∧t<l.length)):JJ l t=false:=by unfold JJ;exact fZ fun k=>h ⟨k.1,k.2.1⟩
theorem AhT {w:AH} (h:IA l n=true):putW l n w=l.set n ⟨true,w.ticket,w.seq,w.cases⟩:=by unfold putW;rw [h,fR rfl,gE]
theorem u7_ {t:Int} {w:AH} (h:IA l t=false):putW l t w=l:=by unfold putW;rw [h];rfl
theorem SB (h:JJ l n=true):cutW l n=l.set n w0:=by unfold cutW;rw [h,fR rfl,gE]
theorem q9_ {t:Int} (h:JJ l t=false):cutW l t=l:=by unfold cutW;rw [h];rfl
theorem wcopy_c (l:List AH) (hl:okW l):Cd Tryz.prog 285 [.ln (l.map tWt)] (.sl 0 0 l.length) [.row 0 167 4 (l.map tWt)]:=by
 have h0:=hl.1
 have h1:(l.map tWt).length=l.length:=fN _
 refine ZEN Tryz.func285 Tryz.ntmps285 ?_
 repeat' (first|(refine ZAL ?_;first|refine uA ?_|refine uK (AdY l h0) ?_)|refine uC ?_|fail)
 refine AW.loopP (fun (q:Nat)=>q≤l.length) (fun (q:Nat)=>(pu (pu (pu (fun _=>.any) 3 (.sl 0 0 l.length)) 8 (i64 l.length)) 9 (i64 q))) (fun (q:Nat)=>[.row 0 167 4 (l.map tWt)]) (fun (q:Nat)=>l.length-q) (0) ?_ ?_ ?_
 ·exact fX _
 ·exact Wk.cq 1
 ·intro q h2
  by_cases hq:q<l.length
  ·obtain ⟨a,ha⟩ : ∃a,l[q]? = some a:=⟨_,ZgE hq⟩
   repeat' (first|(refine ZAL ?_;first|(refine kL 3594 rfl ?_;first|((refine AjR (d:=19) rfl rfl Tryz.func112 rfl (RY a.cases (hl.at ha)) ?_);(try refine uf 1 19 ?_)))|refine F8 ?_|refine uA ?_)|refine uC ?_|refine ZK2 (fun hc=>?_) (fun hc=>?_)|fail)
   all_goals try exact ZE5
   rw [AiJ ha]
   refine ⟨q+1,by omega,by omega,?_⟩
   exact Wk.cq 1
  ·repeat' (first|refine A0 ?_|fail)
   all_goals first|(exfalso;omega)|(exact Fin.q Tryz.results285 (.cons (.tmp rfl) .nil) [0])
theorem AkF (l:List AH) (t:Int):Cd Tryz.prog 308 [.ln (l.map tWt),i64 t] (bo (decide (0≤t∧t<l.length))) []:=by
 have h1:(l.map tWt).length=l.length:=fN _
 by_cases p1:0≤t<;>by_cases p2:t<l.length
 all_goals
  refine ZEN Tryz.func308 Tryz.ntmps308 ?_
  repeat' (first|refine A0 ?_|fail)
  all_goals first|(exfalso;omega)|(refine A5 Tryz.results308 ?_)
  all_goals first|(rw [fW (by omega)];done)|(rw [fZ (by omega)];done)|(simp [*];done)|(simp;omega)
theorem AwB (l:List AH) (t:Int) (w:AH) (hl:okW l) (hw:w.cases.length≤5864062014805):Cd Tryz.prog 301 [.ln (l.map tWt),i64 t,.agg [bo w.on,i64 w.ticket,i64 w.seq,.ln (w.cases.map tCs)]] (.tup [.sl 0 0 l.length,bo (IA l t)]) [.row 0 167 4 ((putW l t w).map tWt)]:=by
 have h1:(l.map tWt).length=l.length:=fN _
 by_cases ht:0≤t∧t<l.length
 ·obtain ⟨n,rfl⟩ : ∃n:Nat,t=n:=⟨t.toNat,by omega⟩
  obtain ⟨⟨on,tk,sq,cs⟩,ha⟩ : ∃a,l[n]? = some a:=⟨_,ZgE (by omega)⟩
  have cA:=AkF l n
  rw [fW ht] at cA
  cases on
  ·rw [AhT (WI ha rfl),WI ha rfl]
   refine ZEN Tryz.func301 Tryz.ntmps301 ?_
   repeat' (first|(refine ZAL ?_;first|(refine kL 3594 rfl ?_;first|((refine AjR (d:=25) rfl rfl Tryz.func112 rfl (RY w.cases hw) ?_);(try refine uf 2 25 ?_)))|(refine kL 131 rfl ?_;first|refine A_store_rp rfl rfl 4 _ _ rfl AlQ (by decide) rfl rfl aI rfl rfl rfl (ZbT rfl) bI qN ?_)|refine F8 ?_|(refine kL 5347 rfl ?_;first|refine A_store_rp rfl rfl 167 _ _ rfl inf167 (by decide) rfl rfl aI rfl rfl rfl (ZbT rfl) bI qN ?_)|refine uA ?_|refine uK (wcopy_c l hl) ?_|refine uK (cA) ?_)|refine uC ?_|refine uS 15 (fun hb=>?_) (fun hb=>?_)|refine ZK2 (fun hc=>?_) (fun hc=>?_)|fail)
   all_goals exact Dv Tryz.results301
  ·rw [u7_ (f6_ ha rfl),f6_ ha rfl]
   refine ZEN Tryz.func301 Tryz.ntmps301 ?_
   repeat' (first|refine Cm ?_|fail)
   all_goals exact Dv Tryz.results301
 ·have cA:=AkF l t
  rw [fZ ht] at cA
  rw [u7_ (WH ht),WH ht]
  refine ZEN Tryz.func301 Tryz.ntmps301 ?_
  repeat' (first|refine Cm ?_|fail)
  all_goals exact Dv Tryz.results301
theorem ZI (l:List AH) (t:Int) (hl:okW l):Cd Tryz.prog 304 [.ln (l.map tWt),i64 t] (.tup [.sl 0 0 l.length,bo (JJ l t)]) [.row 0 167 4 ((cutW l t).map tWt)]:=by
 have h1:(l.map tWt).length=l.length:=fN _
 by_cases ht:0≤t∧t<l.length
 ·obtain ⟨n,rfl⟩ : ∃n:Nat,t=n:=⟨t.toNat,by omega⟩
  obtain ⟨⟨on,tk,sq,cs⟩,ha⟩ : ∃a,l[n]? = some a:=⟨_,ZgE (by omega)⟩
  have cA:=AkF l n
  rw [fW ht] at cA
  cases on
  ·rw [q9_ (OD ha rfl),OD ha rfl]
   refine ZEN Tryz.func304 Tryz.ntmps304 ?_
   repeat' (first|refine Cm ?_|fail)
   all_goals exact Dw Tryz.results304
  ·rw [SB (EM ha rfl),EM ha rfl]
   refine ZEN Tryz.func304 Tryz.ntmps304 ?_
   repeat' (first|(refine ZAL ?_;first|(refine kL 5358 rfl ?_;first|(refine zkD 24 rfl ?_;refine uA ?_;(try refine uz 24 ?_)))|(refine kL 5347 rfl ?_;first|refine A_store_rp rfl rfl 167 _ _ rfl inf167 (by decide) rfl rfl aI rfl rfl rfl (ZbT rfl) (by first|exact map_set (f:=tWt) (x:=w0)|exact qN) qN ?_)|refine uA ?_|refine uK (wcopy_c l hl) ?_|refine uK (cA) ?_)|refine uC ?_|refine uS 13 (fun hb=>?_) (fun hb=>?_)|refine ZK2 (fun hc=>?_) (fun hc=>?_)|fail)
   all_goals exact Dw Tryz.results304
 ·have cA:=AkF l t
  rw [fZ ht] at cA
  rw [q9_ (OE ht),OE ht]
  refine ZEN Tryz.func304 Tryz.ntmps304 ?_
  repeat' (first|refine Cm ?_|fail)
  all_goals exact Dw Tryz.results304
end
theorem l6_ (f:FuncId) (fi cap:List AV) (p:BF→Bool) (hg : ∀c:BF,CV Tryz.prog (.fn (.func f) fi cap) [.agg ((tCs c).map .t)] (.t (.v (.bool (p c)))) []) (hup:upB (CM 0) (.fn (.func f) fi cap) = .fn (.func f) fi cap)
  (l:List BF) (hl:l.length≤1152921504606846976):Cd Tryz.prog 309 [.ln (l.map tCs),.fn (.func f) fi cap] (i64 (ixF p l)) []:=by
 have h1:(l.map tCs).length=l.length:=fN _
 refine ZEN Tryz.func309 Tryz.ntmps309 ?_
 repeat' (first|refine A0 ?_|fail)
 refine AW.loopP (fun (q:Nat)=>q≤l.length ∧ ∀j,j<q → ∀b,l[j]? = some b→p b=false) (fun (q:Nat)=>(pu (pu (pu (pu (fun _=>.any) 0 (.ln (l.map tCs))) 1 (.fn (.func f) fi cap)) 7 (i64 (l.map tCs).length)) 8 (i64 q))) (fun (q:Nat)=>[]) (fun (q:Nat)=>l.length-q) (0) ?_ ?_ ?_
 ·exact ⟨fX _,fun j hj=>by omega⟩
 ·exact Wk.cq 0
 ·rintro q ⟨h2,h3⟩
  by_cases hq:q<l.length
  ·obtain ⟨a,ha⟩ : ∃a,l[q]? = some a:=⟨_,ZgE hq⟩
   have c1:=hg a
   cases hp:p a
   ·rw [hp] at c1
    repeat' (first|refine Am ?_|fail)
    all_goals try exact ZE5
    refine ⟨q+1,⟨by omega,fun j hj b hb=>?_⟩,by omega,?_⟩
    ·by_cases e:j=q
     ·subst e;rw [ha] at hb;cases hb;exact hp
     ·exact h3 j (by omega) b hb
    ·exact Wk.cq 0
   ·rw [hp] at c1
    rw [JU p l q a h3 ha hp]
    repeat' (first|refine Am ?_|fail)
    all_goals exact A2 Tryz.results309
  ·rw [FI p l fun j b hb=>h3 j eM b hb]
   repeat' (first|refine A0 ?_|fail)
   all_goals exact A2 Tryz.results309
theorem AsB (d h:Int) (c:BF):Cd Tryz.prog 322 [.agg ((tCs c).map .t),.lp [i64 d],.lp [i64 h]] (bo (isC d h c)) []:=by
 obtain ⟨a,b,v⟩:=c
 by_cases p1:a=d<;>by_cases p2:b=h
 all_goals
  refine ZEN Tryz.func322 Tryz.ntmps322 ?_
  repeat' (first|refine A0 ?_|fail)
  all_goals first|(exfalso;omega)|(refine A5 Tryz.results322 ?_)
  all_goals first|(simp [isC, *];done)|skip
theorem AvX (w:AH) (d h:Int) (hw:w.cases.length≤1152921504606846976):Cd Tryz.prog 317 [.agg [bo w.on,i64 w.ticket,i64 w.seq,.ln (w.cases.map tCs)],i64 d,i64 h] (.tup [i64 (max (ixF (isC d h) w.cases) 0),bo (decide (0≤ixF (isC d h) w.cases)&&w.on)]) []:=by
 have c1:=l6_ 322 [] [.lp [i64 d],.lp [i64 h]] (isC d h) (fun c=>⟨_,_,[],[.lp [i64 d],.lp [i64 h]],rfl,Tryz.func322,by kernel_rfl,by kernel_rfl,fun _=>.nil,fun _=>.cons (.lpL (.cons (.t _) .nil)) (.cons (.lpL (.cons (.t _) .nil)) .nil),AsB d h c⟩) rfl w.cases hw
 obtain ⟨on,tk,sq,cs⟩:=w
 dsimp only at c1 hw ⊢
 generalize ixF (isC d h) cs=z at c1 ⊢
 by_cases hz:0≤z
 all_goals
  cases on
  all_goals
   refine ZEN Tryz.func317 Tryz.ntmps317 ?_
   repeat' (first|(refine ZAL ?_;first|refine uA ?_|refine uK (c1) ?_)|refine uR ?_|refine uC ?_|refine AW.drawU (id:=2) mixed 0 qR ?_|fail)
   all_goals first|(exfalso;omega)|(refine Fin.q Tryz.results317 (.cons (.tmp rfl) (.cons (.tmp rfl) .nil)) [] (hr:=(.tupL (.cons (.t ?_) (.cons (.t ?_) .nil)))))
   all_goals first|(simp [*];done)|skip
theorem AaB {l:List AH} {d h:Int} {k:Nat} {a:AH} (ha:l[k]? = some a):IP l d h (k+1)=if a.on=true∧0≤ixF (isC d h) a.cases∧((IP l d h k).ok=false∨a.ticket<(l.getD (IP l d h k).th.toNat default).ticket) then ⟨k,ixF (isC d h) a.cases,true⟩ else IP l d h k:=by
 rw [IP,BK ha]
def fir (l:List AH) (d h:Int):FS:=IP l d h l.length
theorem MG (l:List AH) (d h:Int) (hl:okW l):Cd Tryz.prog 306 [.ln (l.map tWt),i64 d,i64 h] (.tup [i64 (fir l d h).th,i64 (fir l d h).wh,bo (fir l d h).ok]) []:=by
 have h0:=hl.1
 have h1:(l.map tWt).length=l.length:=fN _
 refine ZEN Tryz.func306 Tryz.ntmps306 ?_
 repeat' (first|refine A0 ?_|fail)
 refine AW.loopP (fun (x:Nat × FS)=>x.1≤l.length∧x.2=IP l d h x.1) (fun (x:Nat × FS)=>(pu (pu (pu (pu (pu (pu (pu (pu (pu (fun _=>.any) 0 (.ln (l.map tWt))) 1 (i64 d)) 2 (i64 h)) 6 (i64 x.2.th)) 7 (i64 x.2.wh)) 8 (bo x.2.ok)) 13 (.ln (l.map tWt))) 14 (i64 (l.map tWt).length)) 15 (i64 x.1))) (fun (x:Nat × FS)=>[]) (fun (x:Nat × FS)=>l.length-x.1) ((0,⟨0,0,false⟩)) ?_ ?_ ?_
 ·exact ⟨fX _,rfl⟩
 ·exact Wk.cq 0
 ·rintro ⟨q,s⟩ ⟨h2,h3⟩
  dsimp only at h2 h3 ⊢
  by_cases hq:q<l.length
  ·obtain ⟨a,ha⟩ : ∃a,l[q]? = some a:=⟨_,ZgE hq⟩
   have hn:=AaB (d:=d) (h:=h) ha
   have hk:=r3_ l d h q
   rw [←h3] at hn hk
   have cH:=AvX a d h (by have:=hl.at ha;omega)
   obtain ⟨th,wh,ok⟩:=s
   dsimp only at hn hk ⊢
   by_cases hc1:a.on=true∧0≤ixF (isC d h) a.cases
   ·rw [show (decide (0≤ixF (isC d h) a.cases)&&a.on)=true by rw [fW hc1.2,hc1.1];rfl,Int.max_eq_left hc1.2] at cH
    cases ok
    ·rw [fR ⟨hc1.1,hc1.2,.inl rfl⟩] at hn
     repeat' (first|refine Cn ?_|fail)
     all_goals first|(exfalso;omega)|(refine ⟨(q+1,⟨q,ixF (isC d h) a.cases,true⟩),⟨by dsimp only;omega,hn.symm⟩,by dsimp only;omega,?_⟩;(exact Wk.cq 0);done)
    ·rcases hk with ⟨hk,_⟩|⟨_,t,rfl,ht,ho,hw,hwn⟩
     ·cases hk
     ·obtain ⟨b,hb⟩ : ∃b,l[t]? = some b:=⟨_,ZgE (by omega)⟩
      rw [gE,BK hb] at hn
      by_cases htk:a.ticket<b.ticket
      ·rw [fR ⟨hc1.1,hc1.2,.inr htk⟩] at hn
       repeat' (first|refine Cn ?_|fail)
       all_goals first|(exfalso;omega)|(refine ⟨(q+1,⟨q,ixF (isC d h) a.cases,true⟩),⟨by dsimp only;omega,hn.symm⟩,by dsimp only;omega,?_⟩;(exact Wk.cq 0);done)
      ·rw [fT (fun k=>by have:=k.2.2;simp [htk] at this)] at hn
       repeat' (first|refine Cn ?_|fail)
       all_goals first|(exfalso;omega)|(refine ⟨(q+1,⟨t,wh,true⟩),⟨by dsimp only;omega,hn.symm⟩,by dsimp only;omega,?_⟩;(exact Wk.cq 0);done)
   ·rw [fT (fun k=>hc1 ⟨k.1,k.2.1⟩)] at hn
    rw [show (decide (0≤ixF (isC d h) a.cases)&&a.on)=false by
     cases ha2:a.on
     ·simp
     ·rw [fZ (fun k=>hc1 ⟨ha2,k⟩)];rfl] at cH
    cases ok
    all_goals
     repeat' (first|refine Cn ?_|fail)
     all_goals first|(exfalso;omega)|(refine ⟨(q+1,⟨th,wh,_⟩),⟨by dsimp only;omega,hn.symm⟩,by dsimp only;omega,?_⟩;(exact Wk.cq 0);done)
  ·have e:q=l.length:=by omega
   subst e
   subst h3
   repeat' (first|refine A0 ?_|fail)
   all_goals exact Dx Tryz.results306
end
end Go.Proofs.YtccefppppedgkaaGreat
