/- Joined: XTLaw12, XTHallS2, XTLaw12a, XTObj, XTObjR. -/
import Derived.Test.YtccefppppedgkaaGreatKGu
import Derived.Test.YtccefppppedgkaaGreatKGza
set_option linter.unusedVariables false
set_option linter.unusedSimpArgs false
set_option linter.unnecessarySimpa false
set_option maxRecDepth 100000
set_option maxHeartbeats 64000000
namespace Go.Proofs.YtccefppppedgkaaGreat
open Go.RowKit
section
attribute [local irreducible] AL AW RG Fin C Cd Cio AI AF AN
def h12:AM:=⟨0,[⟨1,0,true,false,[]⟩,⟨0,0,false,false,[]⟩],[⟨false,0,0,[]⟩,⟨false,0,0,[]⟩],[⟨0,0,0,0⟩,⟨0,0,0,0⟩]⟩
theorem AuL (c:AB) (h:AM) (t n:Int) (q:AT) (hq:okQ h q) (hh:NR h) :
  Cd Tryz.prog 264 [fCf c,aHl h,i64 t,i64 n,aRq q] (.agg [i64 (applyH c h t n q).ticket,.t (.lst ((applyH c h t n q).chans.map tCh)),.t (.lst ((applyH c h t n q).waits.map tWt)),.t (.lst ((applyH c h t n q).done.map tR))]) []:=by
 have h0:=AhX c h t n q hq hh
 have e1:=(KQ c h t n q).1
 have e2:=(KQ c h t n q).2
 generalize applyH c h t n q=g at *
 rw [←e1, ←e2] at h0
 have h0':=Cd.frz1 h0 0 rfl aB rfl;have h0'':=Cd.frz1 h0' 1 rfl aB rfl;exact Cd.drop h0'' rfl
theorem YI (b:Bool) (x:CL) (t n:Int) (q:AT):(appX b x t n q).done.length=x.done.length:=by
 unfold appX GD
 dsimp only
 repeat' split
 all_goals first|rfl|exact EN _ _ _
theorem wq5 {k a v x y:AV}:Wa (.agg [k,a,v,x,y]) (.agg [k,a,v,.any,.any]):=.aggL (.cons (.refl _) (.cons (.refl _) (.cons (.refl _) (.cons (.any _) (.cons (.any _) .nil)))))
theorem wq4 {p q r k a v x y:AV}:WaL [p,q,r,.agg [k,a,v,x,y]] [p,q,r,.agg [k,a,v,.any,.any]]:=.cons (.refl _) (.cons (.refl _) (.cons (.refl _) (.cons wq5 .nil)))
theorem ApL (x:CL) (t n:Int) (q:AT) (k1:x.list.length≤64) (k2:x.done.length≤64):Cd Tryz.prog 270 [aCl x,i64 t,i64 n,aRq q] (.agg [i64 (appX false x t n q).cap,.t (.lst ((appX false x t n q).list.map tI)),.t (.lst ((appX false x t n q).done.map tR))]) []:=by
 have h0:=YZ x.cap x.list x.done t n q.kind q.arg q.value (by omega) (by omega)
 rw [←YI false x t n q] at h0
 change Cd _ _ _ (.agg [i64 (appX false x t n q).cap,.sl 0 0 (appX false x t n q).list.length,.sl 1 0 (appX false x t n q).done.length]) [.row 0 3 1 ((appX false x t n q).list.map tI),.row 0 53 4 ((appX false x t n q).done.map tR)] at h0
 generalize appX false x t n q=g at *
 have h1:Cd Tryz.prog 270 [aCl x,i64 t,i64 n,aRq q] (.agg [i64 g.cap,.sl 0 0 g.list.length,.sl 1 0 g.done.length]) [.row 0 3 1 (g.list.map tI),.row 0 53 4 (g.done.map tR)]:=h0.weak wq4
 have h1':=Cd.frz1 h1 0 rfl aB rfl;have h1'':=Cd.frz1 h1' 1 rfl aB rfl;exact Cd.drop h1'' rfl
theorem AqO (x:CL) (t n:Int) (q:AT) (k1:x.list.length≤64) (k2:x.done.length≤64):Cd Tryz.prog 269 [aCl x,i64 t,i64 n,aRq q] (.agg [i64 (appX true x t n q).cap,.t (.lst ((appX true x t n q).list.map tI)),.t (.lst ((appX true x t n q).done.map tR))]) []:=by
 have h0:=ZU x.cap x.list x.done t n q.kind q.arg q.value (by omega) (by omega)
 rw [←YI true x t n q] at h0
 change Cd _ _ _ (.agg [i64 (appX true x t n q).cap,.sl 0 0 (appX true x t n q).list.length,.sl 1 0 (appX true x t n q).done.length]) [.row 0 3 1 ((appX true x t n q).list.map tI),.row 0 53 4 ((appX true x t n q).done.map tR)] at h0
 generalize appX true x t n q=g at *
 have h1:Cd Tryz.prog 269 [aCl x,i64 t,i64 n,aRq q] (.agg [i64 g.cap,.sl 0 0 g.list.length,.sl 1 0 g.done.length]) [.row 0 3 1 (g.list.map tI),.row 0 53 4 (g.done.map tR)]:=h0.weak wq4
 have h1':=Cd.frz1 h1 0 rfl aB rfl;have h1'':=Cd.frz1 h1' 1 rfl aB rfl;exact Cd.drop h1'' rfl
theorem JE {c:AB} {x:CL} (f:DT c x=true):x.list.length≤16∧x.done.length≤64:=by
 obtain ⟨h0,h1,h2,⟨h3,h4⟩,h5,h6⟩:=DM.1 f
 have hs:=AJ h0
 have hb:=hs.h1 h1
 have:=hs.t1
 omega
theorem AiH (c:AB) (l:List Int) (t n:Int) (q:AT) (hs:c.start.length≤1152921504606846976) (hU:okU l) (hl:l.length≤1152921504606846976) (hq:BR q=true) (hn:0≤n∧n≤1048575) :
  Cd Tryz.prog 262 [fCf c,fU l,i64 t,i64 n,aRq q] (.tup [fU (if FK c l then putX c (appX (decide (c.kind=2)) (readX c l) t n q) else []),bo (FK c l)]) []:=by
 have c1:=AlH c l hs hU hl
 cases hm:FK c l
 ·rw [hm] at c1
  rw [fM (by simp)]
  refine ZEN Tryz.func262 Tryz.ntmps262 ?_
  repeat' (first|(refine ZAL ?_;first|(refine kL 1 rfl ?_;first|((first|refine A_as (d:=10) rfl rfl rfl rfl ?_|refine A_move (d:=10) rfl rfl _ (.inr rfl) (y:=.sl _ _ _) rfl ?_|refine A_move (d:=10) rfl rfl _ (.inr rfl) (y:=.nl) rfl ?_|refine A_move (d:=10) rfl rfl _ (.inr rfl) (y:=.ptr _ _) rfl ?_|refine A_move (d:=10) rfl rfl _ (.inr rfl) (y:=.ln _) rfl ?_|refine A_move (d:=10) rfl rfl _ (.inr rfl) (y:=.lp _) rfl ?_|refine A_move (d:=10) rfl rfl _ (.inr rfl) (y:=.fn _ _ _) rfl ?_|refine A_move (d:=10) rfl rfl _ (.inr rfl) (y:=.sub _ _ _ _) rfl ?_|refine A_move (d:=10) rfl rfl _ (.inr rfl) (y:=.rp _ _ _ _) rfl ?_|refine A_move (d:=10) rfl rfl _ (.inr rfl) (y:=.agg _) rfl ?_|refine A_move (d:=10) rfl rfl _ (.inr rfl) (y:=.tup _) rfl ?_|refine A_move (d:=10) rfl rfl _ (.inr rfl) (y:=.mv _) rfl ?_|refine A_move (d:=10) rfl rfl _ (.inr rfl) (y:=.cl _) rfl ?_);(try refine uz 10 ?_)))|refine uA ?_|refine uK (c1) ?_)|refine uR ?_|refine uC ?_|(first|refine AW.drawU (id:=5) mixed 4 qR ?_|refine AW.drawU (id:=6) mixed 4 qR ?_)|refine ZK2 (fun hc=>?_) (fun hc=>?_)|fail)
  all_goals exact Bv Tryz.results262
 ·obtain ⟨f, -⟩:=NP hm
  rw [hm] at c1
  rw [fL rfl]
  generalize readX c l=x at *
  obtain ⟨s1,s2⟩:=JE f
  have hb : ∀b,DT c (appX b x t n q)=true:=fun b=>PA f hq hn
  have c2:=ApL x t n q (by omega) (by omega)
  have c3:=AqO x t n q (by omega) (by omega)
  have c4:=fun b=>j_ c (appX b x t n q) hs (by have:=(JE (hb b)).1;omega) (by have:=(JE (hb b)).2;omega)
  have c5:=c4 true
  have c6:=c4 false
  clear c4
  by_cases k2:c.kind=2
  ·rw [fR k2]
   generalize appX true x t n q=g at *
   generalize putX c g=w at *
   clear c6 c2
   obtain ⟨a0,a1,a2,a3,a4,a5,a6,a7,a8,a9,a10⟩:=c
   dsimp only [fCf,aCf,aRq] at *
   subst k2
   refine ZEN Tryz.func262 Tryz.ntmps262 ?_
   repeat' (first|(refine ZAL ?_;first|refine uA ?_|refine uK (c1) ?_)|(refine ZRG ?_;first|refine uR ?_|refine ZQ1 (c3) ?_|refine ZQ1 (c5) ?_)|refine uC ?_|refine AW.drawU (id:=5) mixed 4 qR ?_|fail)
   all_goals exact Bv Tryz.results262
  ·rw [fP k2]
   generalize appX false x t n q=g at *
   generalize putX c g=w at *
   clear c5 c3
   obtain ⟨a0,a1,a2,a3,a4,a5,a6,a7,a8,a9,a10⟩:=c
   dsimp only [fCf,aCf,aRq] at *
   refine ZEN Tryz.func262 Tryz.ntmps262 ?_
   repeat' (first|(refine ZAL ?_;first|refine uA ?_|refine uK (c1) ?_)|(refine ZRG ?_;first|refine uR ?_|refine ZQ1 (c6) ?_|refine ZQ1 (c2) ?_)|refine uC ?_|refine AW.drawU (id:=6) mixed 4 qR ?_|fail)
   all_goals exact Bv Tryz.results262
theorem AhY (c:AB) (l:List Int) (t n:Int) (q:AT) (hs:c.start.length≤1152921504606846976) (hU:okU l) (hl:l.length≤17592186044415) (hq:sRq q) (hq0:q.cases.length≤5864062014805) :
  Cd Tryz.prog 250 [fCf c,fU l,i64 t,i64 n,aRq q] (fU (FD c l t n q)) []:=by
 have c0:=GK q (by omega)
 have c1:=FR l hl
 unfold FD AqT
 by_cases m1:0≤t∧t<c.threads
 ·by_cases m2:0≤n∧n≤1048575
  ·rw [fR m1,fR m2,kM,kM]
   cases m3:BR q
   ·rw [m3] at c0
    rw [fM (by simp)]
    dsimp only [fCf,aRq] at *
    refine B3 ?_
    repeat' (first|(refine ZAL ?_;first|refine uA ?_|refine uK (c0) ?_|refine uK (c1) ?_)|refine uC ?_|fail)
    all_goals exact A2 Tryz.results250
   ·rw [m3] at c0
    rw [fL rfl]
    by_cases k3:c.kind=3
    ·rw [fL k3]
     have c2:=AlF c l hs hU (by omega)
     cases hm:GV c l
     ·rw [hm] at c2
      rw [fM (by simp)]
      obtain ⟨a0,a1,a2,a3,a4,a5,a6,a7,a8,a9,a10⟩:=c
      dsimp only [fCf,aCf,aRq] at *
      subst k3
      refine B3 ?_
      repeat' (first|refine F5 ?_|fail)
      all_goals exact A2 Tryz.results250
     ·obtain ⟨f, -⟩:=NO hm
      rw [hm] at c2
      rw [fL rfl]
      generalize readH c l=h at *
      have ok:=(OZ f).1
      have c3:=AuL c h t n q (v2_ f hq hq0) ok
      have c4:=i9_ c (applyH c h t n q) hs (OZ (OY f m3 m2)).1.toH
      generalize applyH c h t n q=g at *
      generalize putH c g=w at *
      obtain ⟨a0,a1,a2,a3,a4,a5,a6,a7,a8,a9,a10⟩:=c
      dsimp only [fCf,aCf,aRq] at *
      subst k3
      refine B3 ?_
      repeat' (first|(refine ZAL ?_;first|refine uA ?_|refine uK (c0) ?_|refine uK (c2) ?_)|(refine ZRG ?_;first|refine uR ?_|refine ZQ1 (c3) ?_|refine ZQ1 (c4) ?_)|refine uC ?_|refine AW.drawU (id:=11) mixed 4 qR ?_|fail)
      all_goals exact A2 Tryz.results250
    ·rw [fM k3]
     have c2:=AiH c l t n q hs hU (by omega) m3 m2
     cases hm:FK c l
     ·rw [hm] at c2
      rw [fM (by simp)] at c2 ⊢
      obtain ⟨a0,a1,a2,a3,a4,a5,a6,a7,a8,a9,a10⟩:=c
      dsimp only [fCf,aCf,aRq] at *
      refine B3 ?_
      repeat' (first|refine F5 ?_|fail)
      all_goals exact A2 Tryz.results250
     ·rw [hm] at c2
      rw [fL rfl] at c2 ⊢
      generalize putX c (appX (decide (c.kind=2)) (readX c l) t n q)=w at *
      obtain ⟨a0,a1,a2,a3,a4,a5,a6,a7,a8,a9,a10⟩:=c
      dsimp only [fCf,aCf,aRq] at *
      refine B3 ?_
      repeat' (first|(refine ZAL ?_;first|refine uA ?_|refine uK (c0) ?_|refine uK (c2) ?_)|refine uC ?_|fail)
      all_goals exact A2 Tryz.results250
  ·rw [fP m2,lF,jA,fM (by simp)]
   dsimp only [fCf,aRq] at *
   by_cases n0:0≤n
   all_goals
    refine B3 ?_
    repeat' (first|refine A6 ?_|fail)
    all_goals first|(exfalso;omega)|(exact A5 Tryz.results250)
 ·rw [fP m1,jA,jA,fM (by simp)]
  dsimp only [fCf,aRq] at *
  by_cases t0:0≤t
  all_goals
   refine B3 ?_
   repeat' (first|refine A6 ?_|fail)
   all_goals first|(exfalso;omega)|(exact A5 Tryz.results250)
def allN (c:AB) (l:List Int) (ops:List DOp):Nat→List Int
 |0=>l
 |k+1=>FD c (allN c l ops k) (ops.getD k default).thread (ops.getD k default).seq (ops.getD k default).req
theorem TU {c:AB} {l:List Int} {ops:List DOp} {k:Nat} {x:DOp} (hx:ops[k]? = some x):allN c l ops (k+1)=FD c (allN c l ops k) x.thread x.seq x.req:=by
 rw [allN,BJ hx]
theorem AlU (c:AB):sizeC c≤1000:=by
 cases k:AY c
 ·unfold sizeC;rw [fM (by simp [k])];decide
 ·have hs:=AJ k
  have:=hs.t1
  by_cases k3:c.kind=3
  ·have hb:=hs.h3 k3
   rw [MU k k3]
   have h2:c.chans*(1+c.cap)≤8*9:=mO hb.2.1 (by omega) (by omega) (by decide)
   omega
  ·have hb:=hs.h1 k3
   rw [MW k k3];omega
theorem YL {c:AB} {l:List Int} {b:Nat} (hb:1000≤b) (h:l.length≤b) (t n:Int) (q:AT):(FD c l t n q).length≤b:=by
 have hz:=AlU c
 have hH : ∀g,(putH c g).length≤b:=fun g=>by
  cases f:DS c g
  ·unfold putH;rw [f];exact fO _
  ·have:=MI f;omega
 have hX : ∀g,(putX c g).length≤b:=fun g=>by
  cases f:DT c g
  ·unfold putX;rw [f];exact fO _
  ·have:=MJ f;omega
 unfold FD
 split
 ·split
  ·split
   ·exact hH _
   ·exact h
  ·split
   ·exact hX _
   ·exact h
 ·exact h
theorem l9_ {c:AB} {l:List Int} (ops:List DOp) {b:Nat} (hb:1000≤b) (h:l.length≤b) (hU:okU l) : ∀k,(allN c l ops k).length≤b∧okU (allN c l ops k)
 |0=>⟨h,hU⟩
 |k+1=>by
  obtain ⟨h1,h2⟩:=l9_ ops hb h hU k
  exact ⟨YL hb h1 _ _ _,YK h2 _ _ _⟩
theorem AuJ (c:AB) (l:List Int) (ops:List DOp) (hs:c.start.length≤1152921504606846976) (hU:okU l) (hl:l.length≤17592186044415) (ho:ops.length≤1152921504606846976) (hq : ∀x∈ops,sRq x.req) (hq0 : ∀x∈ops,x.req.cases.length≤5864062014805) :
  Cd Tryz.prog 220 [fCf c,fU l,.ln (ops.map tOp)] (fU (allN c l ops ops.length)) []:=by
 have h1:(ops.map tOp).length=ops.length:=fH _
 have c1:=FR l hl
 have hok:=l9_ (c:=c) ops (by decide) hl hU
 have hA:=fun k t n q h=>AhY c (allN c l ops k) t n q hs (hok k).2 (hok k).1 h
 have h0:allN c l ops 0=l:=rfl
 have hN := @TU c l ops
 generalize allN c l ops=L at *
 dsimp only [fCf,aCf] at *
 refine ZEN Tryz.func220 Tryz.ntmps220 ?_
 repeat' (first|refine A6 ?_|fail)
 all_goals try exact ZE5
 refine AW.loopP (fun (k:Nat)=>k≤ops.length) (fun (k:Nat)=>(pu (pu (pu (pu (pu (fun _=>.any) 3 (.ptr 0 0)) 7 (.t (.lst ((L k).map tU)))) 12 (.ln (ops.map tOp))) 13 (i64 (ops.map tOp).length)) 14 (i64 k))) (fun (k:Nat)=>[.box 24 [i64 c.kind,i64 c.threads,i64 c.chans,i64 c.cap,i64 c.nodes,i64 c.retire,i64 c.patience,i64 c.tags,i64 c.seqs,i64 c.gens,.t (.lst (c.start.map tI))]]) (fun (k:Nat)=>ops.length-k) (0) ?_ ?_ ?_
 ·exact fO _
 ·rw [h0]
  exact Wk.cq 1
 ·intro k hk
  by_cases hi:k<ops.length
  ·obtain ⟨x,hx⟩ : ∃x,ops[k]? = some x:=⟨_,ZgE hi⟩
   have hm:=fI hx
   have cA:=hA k x.thread x.seq x.req (hq x hm) (hq0 x hm)
   have hn:=hN hx
   rw [←hn] at cA
   obtain ⟨t,s,p,⟨qk,qa,qv,qd,cs⟩⟩:=x
   dsimp only [aRq] at cA
   repeat' (first|refine Du ?_|fail)
   all_goals try exact ZE5
   refine ⟨k+1,by omega,by omega,?_⟩
   exact Wk.cq 1
  ·obtain rfl:k=ops.length:=by omega
   repeat' (first|refine A0 ?_|fail)
   all_goals exact A2 Tryz.results220
end
end Go.Proofs.YtccefppppedgkaaGreat
