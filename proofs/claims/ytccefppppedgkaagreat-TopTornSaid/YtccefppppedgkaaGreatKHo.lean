/- Joined: XTOn, XTLaw10, XTOnB, XTLaw10b, XTLaw10c, XTOnR. -/
import Derived.Test.YtccefppppedgkaaGreatKHm
import Derived.Test.YtccefppppedgkaaGreatKHl
set_option linter.unusedVariables false
set_option linter.unusedSimpArgs false
set_option linter.unnecessarySimpa false
set_option maxRecDepth 100000
set_option maxHeartbeats 64000000
namespace Go.Proofs.YtccefppppedgkaaGreat
open Go.RowKit
section
attribute [local irreducible] AL AW RG Fin C Cd Cio AI AF AO
theorem a5_ (f:FuncId) (fi cap:List AV) (p:BF→Bool) (hg : ∀c:BF,CV Tryz.prog (.fn (.func f) fi cap) [.agg ((tCs c).map .t)] (.t (.v (.bool (p c)))) []) (hup:upB (CM 0) (.fn (.func f) fi cap) = .fn (.func f) fi cap) (hps : ∀heap sel,BH heap sel (.fn (.func f) fi cap) (.fn (.func f) fi cap))
  (l:List BF) (hl:l.length≤1152921504606846976):Cd Tryz.prog 312 [.ln (l.map tCs),.fn (.func f) fi cap] (bo (decide (0≤ixF p l))) []:=by
 have c1:=l6_ f fi cap p hg hup l hl
 refine ZEN Tryz.func312 Tryz.ntmps312 ?_
 by_cases h:0≤ixF p l
 all_goals
  repeat' (first|refine A7 ?_|fail)
  all_goals first|(exfalso;omega)|(refine A5 Tryz.results312 ?_)
  all_goals first|(simp [h];done)|skip
def isH (h:Int) (c:BF):Bool:=decide (c.handle=h)
theorem BaL (h:Int) (c:BF):Cd Tryz.prog 313 [.agg ((tCs c).map .t),.lp [i64 h]] (bo (isH h c)) []:=by
 obtain ⟨a,b,v⟩:=c
 by_cases p2:b=h
 all_goals
  refine ZEN Tryz.func313 Tryz.ntmps313 ?_
  repeat' (first|refine A0 ?_|fail)
  all_goals first|(exfalso;omega)|(refine A5 Tryz.results313 ?_)
  all_goals first|(simp [isH, *];done)|skip
theorem AlT (x:Int):Cd Tryz.prog 321 [i64 x] (bo false) []:=by
 refine ZEN Tryz.func321 Tryz.ntmps321 ?_
 repeat' (first|refine A0 ?_|fail)
 all_goals (exact A6 Tryz.results321)
def XP (a b:Int):Int:=if a<b then -1 else if a>b then 1 else 0
theorem z9_ (a b:Int):Cd Tryz.prog 316 [i64 a,i64 b] (i64 (XP a b)) []:=by
 refine ZEN Tryz.func316 Tryz.ntmps316 ?_
 repeat' (first|(refine ZAL ?_;first|refine uA ?_|refine uK (AlT _) ?_)|refine uC ?_|refine kcp rfl (fun hc=>?_) (fun hc=>?_)|fail)
 ·rw [show XP a b = -1 from fR hc]
  exact A6 Tryz.results316
 ·rename_i h1
  rw [show XP a b=1 by unfold XP;rw [fT h1,fR hc]]
  exact A6 Tryz.results316
 ·rename_i h1
  rw [show XP a b=0 by unfold XP;rw [fT h1,fT hc]]
  exact A6 Tryz.results316
theorem BaM (l:List AH) (x y:Nat) (a b:AH) (ha:l[x]? = some a) (hb:l[y]? = some b):Cd Tryz.prog 315 [i64 x,i64 y,.lp [.ln (l.map tWt)]] (i64 (XP a.ticket b.ticket)) []:=by
 have h1:(l.map tWt).length=l.length:=fN _
 have h2:=get_lt ha
 have h3:=get_lt hb
 refine ZEN Tryz.func315 Tryz.ntmps315 ?_
 repeat' (first|refine uA ?_|(refine ZRG ?_;first|refine uR ?_|refine ZQ1 (z9_ a.ticket b.ticket) ?_)|refine uC ?_|refine AW.drawU (id:=1) mixed 0 qR ?_|fail)
 all_goals exact A2 Tryz.results315
def tick (l:List AH) (t:Int):Int:=(l.getD t.toNat default).ticket
theorem AtS (l:List AH) (O:List Int) (hO : ∀z∈O,0≤z∧z<l.length):QK (.fn (.func 315) [] [.lp [.ln (l.map tWt)]]) (tick l) O:=fun x hx y hy=>by
 obtain ⟨x1,x2⟩:=hO x hx
 obtain ⟨y1,y2⟩:=hO y hy
 obtain ⟨m,rfl⟩ : ∃m:Nat,x=m:=⟨x.toNat,by omega⟩
 obtain ⟨n,rfl⟩ : ∃n:Nat,y=n:=⟨y.toNat,by omega⟩
 obtain ⟨a,ha⟩ : ∃a,l[m]? = some a:=⟨_,ZgE (by omega)⟩
 obtain ⟨b,hb⟩ : ∃b,l[n]? = some b:=⟨_,ZgE (by omega)⟩
 refine ⟨XP a.ticket b.ticket,?_,⟨_,_,[],[.lp [.ln (l.map tWt)]],rfl,Tryz.func315,by kernel_rfl,by kernel_rfl,fun _=>.nil,fun _=>.cons (.lpL (.cons (.ln _) .nil)) .nil,BaM l m n a b ha hb⟩⟩
 unfold tick XP
 rw [gE,gE,BK ha,BK hb]
 repeat' split
 all_goals omega
end
section
attribute [local simp] DR CQ
theorem t6_ {l:List AH} {t:Int} (hl:okW l):okW (cutW l t):=by
 refine ⟨by rw [CQ];exact hl.1,fun x hx=>?_⟩
 unfold cutW at hx
 split at hx
 ·rcases iX hx with h|rfl
  ·exact hl.2 x h
  ·exact fX _
 ·exact hl.2 x hx
def k8:List BF:=[⟨2,8,0⟩]
def v0:List AH:=[w0,w0,w0]
def v1:List AH:=[w0,w0,⟨true,1,4,k8⟩]
def v2:List AH:=[⟨true,2,5,k8⟩,w0,⟨true,1,4,k8⟩]
def v3:List AH:=[⟨true,2,5,k8⟩,w0,w0]
end
section
attribute [local irreducible] AL AW RG Fin C Cd Cio AI AF AO
def onK (l:List AH) (h:Int):Nat→List Int
 |0=>[]
 |k+1=>if (l.getD k default).on&&decide (0≤ixF (isH h) (l.getD k default).cases) then onK l h k++[(k:Int)] else onK l h k
theorem f_ {l:List AH} {h:Int} {k:Nat} {a:AH} (ha:l[k]? = some a):onK l h (k+1)=if a.on&&decide (0≤ixF (isH h) a.cases) then onK l h k++[(k:Int)] else onK l h k:=by
 rw [onK,BK ha]
theorem t9_ (l:List AH) (h:Int) (k:Nat):(onK l h k).length≤k ∧ ∀z∈onK l h k,0≤z∧z<k:=by
 induction k with
 |zero=>exact ⟨fV _,fun z hz=>by simp [onK] at hz⟩
 | succ k ih =>
  unfold onK
  split
  ·refine ⟨by simp;omega,fun z hz=>?_⟩
   rcases gQ.1 hz with hz|hz
   ·have:=ih.2 z hz;omega
   ·simp at hz;omega
  ·exact ⟨by omega,fun z hz=>by have:=ih.2 z hz;omega⟩
structure OS where
 q:Nat
 k:Nat
 n:Nat
 O:List Int
theorem BeX (l:List AH) (h:Int) (hl:okW l) (hsort : ∀k,Cio Tryz.prog 314 [.sl 0 k (onK l h l.length).length,.fn (.func 315) [] [.lp [.ln (l.map tWt)]]] [.row k 3 1 ((onK l h l.length).map tI)] (.tup []) [.row k 3 1 ((isort (tick l) (onK l h l.length)).map tI)]) :
  Cd Tryz.prog 305 [.ln (l.map tWt),i64 h] (.sl 0 0 (onK l h l.length).length) [.row 0 3 1 ((isort (tick l) (onK l h l.length)).map tI)]:=by
 have h0:=hl.1
 have h1:(l.map tWt).length=l.length:=fN _
 refine ZEN Tryz.func305 Tryz.ntmps305 ?_
 repeat' (first|refine A0 ?_|fail)
 refine AW.wk (Wk.own 5 rfl 3 1 (.push rfl rfl)) ?_
 refine AW.loopP (fun (x:OS)=>x.q≤l.length∧x.O=onK l h x.q∧x.n=x.O.length) (fun (x:OS)=>(pu (pu (pu (pu (pu (pu (fun _=>.any) 2 (.ptr 0 0)) 3 (.ptr 1 0)) 5 (.sl 2 x.k x.n)) 8 (.ln (l.map tWt))) 9 (i64 (l.map tWt).length)) 10 (i64 x.q))) (fun (x:OS)=>[.box 94 [.ln (l.map tWt)],.box 3 [i64 h],.row x.k 3 1 (x.O.map tI)]) (fun (x:OS)=>l.length-x.q) (⟨0,0,0,[]⟩) ?_ ?_ ?_
 ·exact ⟨fX _,rfl,rfl⟩
 ·exact Wk.cq 3
 ·rintro ⟨q,k,n,O⟩ ⟨h2,h3,h4⟩
  dsimp only at h2 h3 h4 ⊢
  subst h4
  have h5:=(t9_ l h q).1
  rw [←h3] at h5
  have h6:(O.map tI).length=O.length:=fN _
  by_cases hq:q<l.length
  ·obtain ⟨⟨on,tk,sq,cs⟩,ha⟩ : ∃a,l[q]? = some a:=⟨_,ZgE hq⟩
   have hn:=f_ (h:=h) ha
   rw [←h3] at hn
   dsimp only at hn
   have hcs:=hl.at ha
   dsimp only at hcs
   have cC:=a5_ 313 [] [.lp [i64 h]] (isH h) (fun c=>⟨_,_,[],[.lp [i64 h]],rfl,Tryz.func313,by kernel_rfl,by kernel_rfl,fun _=>.nil,fun _=>.cons (.lpL (.cons (.t _) .nil)) .nil,BaL h c⟩) rfl (fun _ _=>.fnL .nil (.cons (.lpL (.cons (.t _) .nil)) .nil)) cs (by omega)
   generalize decide (0≤ixF (isH h) cs)=b at cC hn
   cases on<;>cases b
   all_goals
    repeat' (first|(refine ZAL ?_;first|refine Dr ?_|refine uA ?_|refine uK (cC) ?_)|refine uC ?_|fail)
    all_goals first|(exfalso;omega)|(refine ⟨⟨q+1,k+1,O.length+1,O++[(q:Int)]⟩,⟨by dsimp only;omega,hn.symm,by simp⟩,by dsimp only;omega,?_⟩;(exact Wk.cq 3);done)|(refine ⟨⟨q+1,k,O.length,O⟩,⟨by dsimp only;omega,hn.symm,rfl⟩,by dsimp only;omega,?_⟩;(exact Wk.cq 3);done)
  ·have e:q=l.length:=by omega
   subst e
   subst h3
   repeat' (first|(refine ZAL ?_;first|refine uA ?_|refine uI [2] (hsort k) ?_)|refine uC ?_|fail)
   all_goals first|(exfalso;omega)|(exact Fin.q Tryz.results305 (.cons (.tmp rfl) .nil) [2])
theorem t8_ (l:List AH) (h:Int) (hl2:okW l):Cd Tryz.prog 305 [.ln (l.map tWt),i64 h] (.sl 0 0 (onK l h l.length).length) [.row 0 3 1 ((isort (tick l) (onK l h l.length)).map tI)] :=
 BeX l h hl2 fun k=>ZB _ _ _ _ _ k (by have:=(t9_ l h l.length).1;have:=hl2.1;omega) (AtS l _ fun z hz=>(t9_ l h l.length).2 z hz) rfl (fun _ _=>.fnL .nil (.cons (.lpL (.cons (.ln _) .nil)) .nil))
section
attribute [local simp] DR CQ
end
theorem OI {l:List AH} {d h:Int} (hk:(fir l d h).ok=true) : ∃(t m:Nat) (w:AH) (c:BF),(fir l d h).th=t∧(fir l d h).wh=m∧l[t]? = some w∧w.on=true∧w.cases[m]? = some c∧c.dir=d∧c.handle=h:=by
 rcases r3_ l d h l.length with ⟨h1,_⟩|⟨_,t,h1,h2,h3,h4,h5⟩
 ·rw [show IP l d h l.length=fir l d h from rfl] at h1;rw [hk] at h1;cases h1
 ·obtain ⟨w,hw⟩ : ∃w,l[t]? = some w:=⟨_,ZgE h2⟩
  rw [BK hw] at h3 h4
  rw [h4] at h5
  obtain ⟨c,hc,hp⟩:=QV _ _ h5
  have hp:=jO hp
  exact ⟨t,(ixF (isC d h) w.cases).toNat,w,c,h1,by rw [show (fir l d h).wh=_ from h4];omega,hw,h3,hc,hp.1,hp.2⟩
end
end Go.Proofs.YtccefppppedgkaaGreat
