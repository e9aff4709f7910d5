/- Joined: XTObj, XTObjR, XTTaskD. -/
import Derived.Test.YtccefppppedgkaaGreatKHzg
import Derived.Test.YtccefppppedgkaaGreatKHzb
import Derived.Test.YtccefppppedgkaaGreatKHzi
set_option linter.unusedVariables false
set_option linter.unusedSimpArgs false
set_option linter.unnecessarySimpa false
set_option maxRecDepth 100000
set_option maxHeartbeats 64000000
namespace Go.Proofs.YtccefppppedgkaaGreat
open Go.RowKit
section
attribute [local irreducible] AL AW RG Fin C Cd Cio AI AF AO
theorem ZU (b:Bool) (x:CO) (t n:Int) (q:AU):(appX b x t n q).done.length=x.done.length:=by
 unfold appX GL
 dsimp only
 repeat' split
 all_goals first|rfl|exact EX _ _ _
theorem wq5 {k a v x y:AV}:Wa (.agg [k,a,v,x,y]) (.agg [k,a,v,.any,.any]):=.aggL (.cons (.refl _) (.cons (.refl _) (.cons (.refl _) (.cons (.any _) (.cons (.any _) .nil)))))
theorem wq4 {p q r k a v x y:AV}:WaL [p,q,r,.agg [k,a,v,x,y]] [p,q,r,.agg [k,a,v,.any,.any]]:=.cons (.refl _) (.cons (.refl _) (.cons (.refl _) (.cons wq5 .nil)))
theorem ArW (x:CO) (t n:Int) (q:AU) (k1:x.list.length≤64) (k2:x.done.length≤64):Cd Tryz.prog 270 [aCl x,i64 t,i64 n,aRq q] (.agg [i64 (appX false x t n q).cap,.t (.lst ((appX false x t n q).list.map tI)),.t (.lst ((appX false x t n q).done.map tR))]) []:=by
 have h0:=b1_ x.cap x.list x.done t n q.kind q.arg q.value (by omega) (by omega)
 rw [←ZU false x t n q] at h0
 change Cd _ _ _ (.agg [i64 (appX false x t n q).cap,.sl 0 0 (appX false x t n q).list.length,.sl 1 0 (appX false x t n q).done.length]) [.row 0 3 1 ((appX false x t n q).list.map tI),.row 0 53 4 ((appX false x t n q).done.map tR)] at h0
 generalize appX false x t n q=g at *
 have h1:Cd Tryz.prog 270 [aCl x,i64 t,i64 n,aRq q] (.agg [i64 g.cap,.sl 0 0 g.list.length,.sl 1 0 g.done.length]) [.row 0 3 1 (g.list.map tI),.row 0 53 4 (g.done.map tR)]:=h0.weak wq4
 have h1':=Cd.frz1 h1 0 rfl aB rfl;have h1'':=Cd.frz1 h1' 1 rfl aB rfl;exact Cd.drop h1'' rfl
theorem AtA (x:CO) (t n:Int) (q:AU) (k1:x.list.length≤64) (k2:x.done.length≤64):Cd Tryz.prog 269 [aCl x,i64 t,i64 n,aRq q] (.agg [i64 (appX true x t n q).cap,.t (.lst ((appX true x t n q).list.map tI)),.t (.lst ((appX true x t n q).done.map tR))]) []:=by
 have h0:=c9_ x.cap x.list x.done t n q.kind q.arg q.value (by omega) (by omega)
 rw [←ZU true x t n q] at h0
 change Cd _ _ _ (.agg [i64 (appX true x t n q).cap,.sl 0 0 (appX true x t n q).list.length,.sl 1 0 (appX true x t n q).done.length]) [.row 0 3 1 ((appX true x t n q).list.map tI),.row 0 53 4 ((appX true x t n q).done.map tR)] at h0
 generalize appX true x t n q=g at *
 have h1:Cd Tryz.prog 269 [aCl x,i64 t,i64 n,aRq q] (.agg [i64 g.cap,.sl 0 0 g.list.length,.sl 1 0 g.done.length]) [.row 0 3 1 (g.list.map tI),.row 0 53 4 (g.done.map tR)]:=h0.weak wq4
 have h1':=Cd.frz1 h1 0 rfl aB rfl;have h1'':=Cd.frz1 h1' 1 rfl aB rfl;exact Cd.drop h1'' rfl
theorem JS {c:AB} {x:CO} (f:EB c x=true):x.list.length≤16∧x.done.length≤64:=by
 obtain ⟨h0,h1,h2,⟨h3,h4⟩,h5,h6⟩:=DS.1 f
 have hs:=AJ h0
 have hb:=hs.h1 h1
 have:=hs.t1
 omega
theorem AkL (c:AB) (l:List Int) (t n:Int) (q:AU) (hs:c.start.length≤1152921504606846976) (hU:okU l) (hl:l.length≤1152921504606846976) (hq:BR q=true) (hn:0≤n∧n≤1048575) :
  Cd Tryz.prog 262 [fCf c,fU l,i64 t,i64 n,aRq q] (.tup [fU (if FV c l then putX c (appX (decide (c.kind=2)) (readX c l) t n q) else []),bo (FV c l)]) []:=by
 have c1:=AnJ c l hs hU hl
 cases hm:FV c l
 ·rw [hm] at c1
  rw [fT (by simp)]
  refine ZEN Tryz.func262 Tryz.ntmps262 ?_
  repeat' (first|(refine ZAL ?_;first|(refine kL 1 rfl ?_;first|((first|refine A_as (d:=10) rfl rfl rfl rfl ?_|refine A_move (d:=10) rfl rfl _ (.inr rfl) (y:=.sl _ _ _) rfl ?_|refine A_move (d:=10) rfl rfl _ (.inr rfl) (y:=.nl) rfl ?_|refine A_move (d:=10) rfl rfl _ (.inr rfl) (y:=.ptr _ _) rfl ?_|refine A_move (d:=10) rfl rfl _ (.inr rfl) (y:=.ln _) rfl ?_|refine A_move (d:=10) rfl rfl _ (.inr rfl) (y:=.lp _) rfl ?_|refine A_move (d:=10) rfl rfl _ (.inr rfl) (y:=.fn _ _ _) rfl ?_|refine A_move (d:=10) rfl rfl _ (.inr rfl) (y:=.sub _ _ _ _) rfl ?_|refine A_move (d:=10) rfl rfl _ (.inr rfl) (y:=.rp _ _ _ _) rfl ?_|refine A_move (d:=10) rfl rfl _ (.inr rfl) (y:=.agg _) rfl ?_|refine A_move (d:=10) rfl rfl _ (.inr rfl) (y:=.tup _) rfl ?_|refine A_move (d:=10) rfl rfl _ (.inr rfl) (y:=.mv _) rfl ?_|refine A_move (d:=10) rfl rfl _ (.inr rfl) (y:=.cl _) rfl ?_);(try refine uz 10 ?_)))|refine uA ?_|refine uK (c1) ?_)|refine uR ?_|refine uC ?_|(first|refine AW.drawU (id:=5) mixed 4 qR ?_|refine AW.drawU (id:=6) mixed 4 qR ?_)|refine ZK2 (fun hc=>?_) (fun hc=>?_)|fail)
  all_goals exact C4 Tryz.results262
 ·obtain ⟨f, -⟩:=OM hm
  rw [hm] at c1
  rw [fR rfl]
  generalize readX c l=x at *
  obtain ⟨s1,s2⟩:=JS f
  have hb : ∀b,EB c (appX b x t n q)=true:=fun b=>PV f hq hn
  have c2:=ArW x t n q (by omega) (by omega)
  have c3:=AtA x t n q (by omega) (by omega)
  have c4:=fun b=>n2_ c (appX b x t n q) hs (by have:=(JS (hb b)).1;omega) (by have:=(JS (hb b)).2;omega)
  have c5:=c4 true
  have c6:=c4 false
  clear c4
  by_cases k2:c.kind=2
  ·rw [fW k2]
   generalize appX true x t n q=g at *
   generalize putX c g=w at *
   clear c6 c2
   obtain ⟨a0,a1,a2,a3,a4,a5,a6,a7,a8,a9,a10⟩:=c
   dsimp only [fCf,aCf,aRq] at *
   subst k2
   refine ZEN Tryz.func262 Tryz.ntmps262 ?_
   repeat' (first|(refine ZAL ?_;first|refine uA ?_|refine uK (c1) ?_)|(refine ZRG ?_;first|refine uR ?_|refine ZQ1 (c3) ?_|refine ZQ1 (c5) ?_)|refine uC ?_|refine AW.drawU (id:=5) mixed 4 qR ?_|fail)
   all_goals exact C4 Tryz.results262
  ·rw [fZ k2]
   generalize appX false x t n q=g at *
   generalize putX c g=w at *
   clear c5 c3
   obtain ⟨a0,a1,a2,a3,a4,a5,a6,a7,a8,a9,a10⟩:=c
   dsimp only [fCf,aCf,aRq] at *
   refine ZEN Tryz.func262 Tryz.ntmps262 ?_
   repeat' (first|(refine ZAL ?_;first|refine uA ?_|refine uK (c1) ?_)|(refine ZRG ?_;first|refine uR ?_|refine ZQ1 (c6) ?_|refine ZQ1 (c2) ?_)|refine uC ?_|refine AW.drawU (id:=6) mixed 4 qR ?_|fail)
   all_goals exact C4 Tryz.results262
theorem AkD (c:AB) (l:List Int) (t n:Int) (q:AU) (hs:c.start.length≤1152921504606846976) (hU:okU l) (hl:l.length≤17592186044415) (hq:sRq q) (hq0:q.cases.length≤5864062014805) :
  Cd Tryz.prog 250 [fCf c,fU l,i64 t,i64 n,aRq q] (fU (FN c l t n q)) []:=by
 have c0:=GS q (by omega)
 have c1:=GD l hl
 unfold FN AtF
 by_cases m1:0≤t∧t<c.threads
 ·by_cases m2:0≤n∧n≤1048575
  ·rw [fW m1,fW m2,kM,kM]
   cases m3:BR q
   ·rw [m3] at c0
    rw [fT (by simp)]
    dsimp only [fCf,aRq] at *
    refine B8 ?_
    repeat' (first|(refine ZAL ?_;first|refine uA ?_|refine uK (c0) ?_|refine uK (c1) ?_)|refine uC ?_|fail)
    all_goals exact A2 Tryz.results250
   ·rw [m3] at c0
    rw [fR rfl]
    by_cases k3:c.kind=3
    ·rw [fR k3]
     have c2:=AnI c l hs hU (by omega)
     cases hm:HF c l
     ·rw [hm] at c2
      rw [fT (by simp)]
      obtain ⟨a0,a1,a2,a3,a4,a5,a6,a7,a8,a9,a10⟩:=c
      dsimp only [fCf,aCf,aRq] at *
      subst k3
      refine B8 ?_
      repeat' (first|refine Fo ?_|fail)
      all_goals exact A2 Tryz.results250
     ·obtain ⟨f, -⟩:=OL hm
      rw [hm] at c2
      rw [fR rfl]
      generalize readH c l=h at *
      have ok:=(PU f).1
      have c3:=AxB c h t n q (AaC f hq hq0) ok
      have c4:=n1_ c (applyH c h t n q) hs (PU (PT f m3 m2)).1.toH
      generalize applyH c h t n q=g at *
      generalize putH c g=w at *
      obtain ⟨a0,a1,a2,a3,a4,a5,a6,a7,a8,a9,a10⟩:=c
      dsimp only [fCf,aCf,aRq] at *
      subst k3
      refine B8 ?_
      repeat' (first|(refine ZAL ?_;first|refine uA ?_|refine uK (c0) ?_|refine uK (c2) ?_)|(refine ZRG ?_;first|refine uR ?_|refine ZQ1 (c3) ?_|refine ZQ1 (c4) ?_)|refine uC ?_|refine AW.drawU (id:=11) mixed 4 qR ?_|fail)
      all_goals exact A2 Tryz.results250
    ·rw [fT k3]
     have c2:=AkL c l t n q hs hU (by omega) m3 m2
     cases hm:FV c l
     ·rw [hm] at c2
      rw [fT (by simp)] at c2 ⊢
      obtain ⟨a0,a1,a2,a3,a4,a5,a6,a7,a8,a9,a10⟩:=c
      dsimp only [fCf,aCf,aRq] at *
      refine B8 ?_
      repeat' (first|refine Fo ?_|fail)
      all_goals exact A2 Tryz.results250
     ·rw [hm] at c2
      rw [fR rfl] at c2 ⊢
      generalize putX c (appX (decide (c.kind=2)) (readX c l) t n q)=w at *
      obtain ⟨a0,a1,a2,a3,a4,a5,a6,a7,a8,a9,a10⟩:=c
      dsimp only [fCf,aCf,aRq] at *
      refine B8 ?_
      repeat' (first|(refine ZAL ?_;first|refine uA ?_|refine uK (c0) ?_|refine uK (c2) ?_)|refine uC ?_|fail)
      all_goals exact A2 Tryz.results250
  ·rw [fZ m2,kE,jH,fT (by simp)]
   dsimp only [fCf,aRq] at *
   by_cases n0:0≤n
   all_goals
    refine B8 ?_
    repeat' (first|refine A7 ?_|fail)
    all_goals first|(exfalso;omega)|(exact A6 Tryz.results250)
 ·rw [fZ m1,jH,jH,fT (by simp)]
  dsimp only [fCf,aRq] at *
  by_cases t0:0≤t
  all_goals
   refine B8 ?_
   repeat' (first|refine A7 ?_|fail)
   all_goals first|(exfalso;omega)|(exact A6 Tryz.results250)
def allN (c:AB) (l:List Int) (ops:List DOp):Nat→List Int
 |0=>l
 |k+1=>FN c (allN c l ops k) (ops.getD k default).thread (ops.getD k default).seq (ops.getD k default).req
theorem VE {c:AB} {l:List Int} {ops:List DOp} {k:Nat} {x:DOp} (hx:ops[k]? = some x):allN c l ops (k+1)=FN c (allN c l ops k) x.thread x.seq x.req:=by
 rw [allN,BK hx]
theorem AoB (c:AB):sizeC c≤1000:=by
 cases k:AZ c
 ·unfold sizeC;rw [fT (by simp [k])];decide
 ·have hs:=AJ k
  have:=hs.t1
  by_cases k3:c.kind=3
  ·have hb:=hs.h3 k3
   rw [NK k k3]
   have h2:c.chans*(1+c.cap)≤8*9:=nB hb.2.1 (by omega) (by omega) (by decide)
   omega
  ·have hb:=hs.h1 k3
   rw [NL k k3];omega
theorem ZX {c:AB} {l:List Int} {b:Nat} (hb:1000≤b) (h:l.length≤b) (t n:Int) (q:AU):(FN c l t n q).length≤b:=by
 have hz:=AoB c
 have hH : ∀g,(putH c g).length≤b:=fun g=>by
  cases f:DZ c g
  ·unfold putH;rw [f];exact fX _
  ·have:=NB f;omega
 have hX : ∀g,(putX c g).length≤b:=fun g=>by
  cases f:EB c g
  ·unfold putX;rw [f];exact fX _
  ·have:=NC f;omega
 unfold FN
 split
 ·split
  ·split
   ·exact hH _
   ·exact h
  ·split
   ·exact hX _
   ·exact h
 ·exact h
theorem q3_ {c:AB} {l:List Int} (ops:List DOp) {b:Nat} (hb:1000≤b) (h:l.length≤b) (hU:okU l) : ∀k,(allN c l ops k).length≤b∧okU (allN c l ops k)
 |0=>⟨h,hU⟩
 |k+1=>by
  obtain ⟨h1,h2⟩:=q3_ ops hb h hU k
  exact ⟨ZX hb h1 _ _ _,ZW h2 _ _ _⟩
theorem AwZ (c:AB) (l:List Int) (ops:List DOp) (hs:c.start.length≤1152921504606846976) (hU:okU l) (hl:l.length≤17592186044415) (ho:ops.length≤1152921504606846976) (hq : ∀x∈ops,sRq x.req) (hq0 : ∀x∈ops,x.req.cases.length≤5864062014805) :
  Cd Tryz.prog 220 [fCf c,fU l,.ln (ops.map tOp)] (fU (allN c l ops ops.length)) []:=by
 have h1:(ops.map tOp).length=ops.length:=fN _
 have c1:=GD l hl
 have hok:=q3_ (c:=c) ops (by decide) hl hU
 have hA:=fun k t n q h=>AkD c (allN c l ops k) t n q hs (hok k).2 (hok k).1 h
 have h0:allN c l ops 0=l:=rfl
 have hN := @VE c l ops
 generalize allN c l ops=L at *
 dsimp only [fCf,aCf] at *
 refine ZEN Tryz.func220 Tryz.ntmps220 ?_
 repeat' (first|refine A7 ?_|fail)
 all_goals try exact ZE5
 refine AW.loopP (fun (k:Nat)=>k≤ops.length) (fun (k:Nat)=>(pu (pu (pu (pu (pu (fun _=>.any) 3 (.ptr 0 0)) 7 (.t (.lst ((L k).map tU)))) 12 (.ln (ops.map tOp))) 13 (i64 (ops.map tOp).length)) 14 (i64 k))) (fun (k:Nat)=>[.box 24 [i64 c.kind,i64 c.threads,i64 c.chans,i64 c.cap,i64 c.nodes,i64 c.retire,i64 c.patience,i64 c.tags,i64 c.seqs,i64 c.gens,.t (.lst (c.start.map tI))]]) (fun (k:Nat)=>ops.length-k) (0) ?_ ?_ ?_
 ·exact fX _
 ·rw [h0]
  exact Wk.cq 1
 ·intro k hk
  by_cases hi:k<ops.length
  ·obtain ⟨x,hx⟩ : ∃x,ops[k]? = some x:=⟨_,ZgE hi⟩
   have hm:=fO hx
   have cA:=hA k x.thread x.seq x.req (hq x hm) (hq0 x hm)
   have hn:=hN hx
   rw [←hn] at cA
   obtain ⟨t,s,p,⟨qk,qa,qv,qd,cs⟩⟩:=x
   dsimp only [aRq] at cA
   repeat' (first|refine E4 ?_|fail)
   all_goals try exact ZE5
   refine ⟨k+1,by omega,by omega,?_⟩
   exact Wk.cq 1
  ·obtain rfl:k=ops.length:=by omega
   repeat' (first|refine A0 ?_|fail)
   all_goals exact A2 Tryz.results220
section
theorem SH {q:AU} (h:BR q=true):sRq q∧q.cases.length≤3:=by
 unfold BR at h
 simp only [gG,BX,gM,iI] at h
 obtain ⟨⟨⟨⟨a,b⟩,d⟩,e⟩,g⟩:=h
 refine ⟨⟨⟨by omega,by omega⟩,⟨by omega,by omega⟩,⟨by omega,by omega⟩,trivial,⟨by simp only [reachBytes];omega,fun k hk=>?_⟩⟩,e⟩
 have:=g k hk
 unfold CT at this
 simp only [gG,BX,gM] at this
 exact ⟨⟨by omega,by omega⟩,⟨by omega,by omega⟩,⟨by omega,by omega⟩⟩
theorem AkA (c:AB) (l:List Int) (ops:List DOp):allN c l ops ops.length=allO c l ops:=by
 have key : ∀k,k≤ops.length→allN c l ops k=allO c l (ops.take k):=fun k=>by
  induction k with
  |zero=>intro _;rfl
  |succ k ih =>
   intro hk
   have hx:ops[k]? = some ops[k]:=ZgE (by omega)
   rw [VE hx,ih (by omega),iB,hx]
   unfold allO
   rw [jY];rfl
 rw [key _ (fV _),jQ]
theorem AdM (q:AU) (p:Int):callC q p=IL q p:=rfl
theorem z8_ (l:List DOp) (h:l.length≤1000000000000):Cd Tryz.prog 95 [.ln (l.map tOp)] (.t (.lst (l.map tOp))) []:=by
 have h0:=RZ l (by omega)
 have h0':=Cd.frz1 h0 0 rfl aB rfl;exact Cd.drop h0' rfl
section
variable (c:AB) (x:AC) (t:Nat) (nt:Int) (wn:Bool) (op:List DOp) (m:Mm) (n:Nat)
theorem v3_ (w:Int) (hw:0≤w∧w≤18446744073709551615):Cio Tryz.prog 193 [.ptr 0 0,u64 w] (RO c x t nt wn op m n) (bo (overT x w)) (RO c x t nt wn op m n):=by
 have c1:=GT w hw
 have c2:=f4_ (readR w)
 unfold overT
 generalize readR w=r at *
 by_cases h1:r.seq=x.seq
 ·by_cases h2:r.code≠14
  ·rw [fW ⟨h1,h2⟩]
   rw [fW h2] at c2
   refine ZEN Tryz.func193 Tryz.ntmps193 ?_
   repeat' (first|refine E6 ?_|refine ZK2 (fun hc=>?_) (fun hc=>?_)|fail)
   all_goals exact A3 Tryz.results193
  ·rw [fZ (fun e=>h2 e.2)]
   rw [fZ h2] at c2
   refine ZEN Tryz.func193 Tryz.ntmps193 ?_
   repeat' (first|refine E6 ?_|refine ZK2 (fun hc=>?_) (fun hc=>?_)|fail)
   all_goals exact A3 Tryz.results193
 ·rw [fZ (fun e=>h1 e.1)]
  refine ZEN Tryz.func193 Tryz.ntmps193 ?_
  repeat' (first|refine E6 ?_|refine ZK2 (fun hc=>?_) (fun hc=>?_)|fail)
  all_goals exact A3 Tryz.results193
theorem g7_:Cio Tryz.prog 186 [.ptr 0 0] (RO c x t 0 false [] m n) (.tup []) (RO c (ownedT c x m).x t (ownedT c x m).note (ownedT c x m).won (ownedT c x m).ops (ownedT c x m).m n):=by
 have c1:=OX c x t 0 false [] m n
 have c2:=MT x.pool c.retire
 unfold ownedT
 generalize needsP x.pool c.retire=b at *
 generalize finishT x=y at *
 obtain ⟨pc,seq,req,slow,round,i,j,tri,epoch,all_,base,buf,nxt,word,args,found,seen,pool,res,won,waits,scans⟩:=x
 dsimp only [RO,rB] at *
 cases waits
 ·rw [fT (by simp)]
  cases b
  ·rw [fT (by simp)]
   refine ZEN Tryz.func186 Tryz.ntmps186 ?_
   repeat' (first|refine Fv ?_|refine ZK2 (fun hc=>?_) (fun hc=>?_)|fail)
   all_goals exact A9 Tryz.results186
  ·rw [fR rfl]
   refine ZEN Tryz.func186 Tryz.ntmps186 ?_
   repeat' (first|refine Fv ?_|refine ZK2 (fun hc=>?_) (fun hc=>?_)|fail)
   all_goals exact A9 Tryz.results186
 ·rw [fR rfl]
  refine ZEN Tryz.func186 Tryz.ntmps186 ?_
  repeat' (first|(refine ZAL ?_;first|refine uA ?_|refine uI [0,1,2,3,4] (c1) ?_)|(refine ZRG ?_;first|refine uR ?_|refine AT (c2) ?_)|refine uC ?_|refine AW.drawU (id:=3) mixed 0 qR ?_|refine ZK2 (fun hc=>?_) (fun hc=>?_)|fail)
  all_goals exact A9 Tryz.results186
theorem QC (hs:c.start.length≤1152921504606846976) (ht:t<64) (hi:0≤x.i∧x.i<64) (hc:c.threads≤64) (hU:okU x.buf) (hb:(x.buf.length:Int)≤1000) (hfo : ∀o∈x.found,y4_ o) (hfl:x.found.length≤1048577) (hsq:0≤x.seq∧x.seq≤1048575) (hfit:BR x.req=true) :
  Cio Tryz.prog 179 [.ptr 0 0] (RO c x t nt wn op m n) (.tup []) (RO c (nextMailT c t x) t nt wn op m n):=by
 unfold nextMailT
 by_cases h1:x.i+1<c.threads
 ·rw [fR h1]
  refine ZEN Tryz.func179 Tryz.ntmps179 ?_
  repeat' (first|refine uA ?_|(refine ZRG ?_;first|refine Bt ?_|refine uR ?_)|refine uC ?_|refine Fw ?_|refine ZK2 (fun hc=>?_) (fun hc=>?_)|fail)
  all_goals exact A9 Tryz.results179
 ·rw [fT h1]
  have co:=AmV x.found (by omega) (fun o ho=>by have:=(hfo o ho).t;exact ⟨by omega,by omega⟩)
  have hle:(isort KR x.found).length=x.found.length:=CC _
  have hop : ∀o∈HG t x,y4_ o:=by
   unfold HG
   split
   ·exact fun o ho=>hfo o (EO.1 ho)
   ·intro o ho
    rcases gQ.1 ho with ho|ho
    ·exact hfo o (EO.1 ho)
    ·rw [iN.1 ho]
     exact ⟨⟨by dsimp only;omega,by dsimp only;omega⟩,hsq,⟨gL _,(by decide:(0:Int)≤4294967295)⟩,hfit⟩
  have hol:(HG t x).length≤x.found.length+1:=by
   unfold HG
   split
   ·omega
   ·rw [fP,hle];exact fV _
  have ca:=AwZ c x.buf (HG t x) hs hU (by omega) (by omega) (fun o ho=>(SH (hop o ho).f).1) (fun o ho=>by have:=(SH (hop o ho).f).2;omega)
  rw [AkA] at ca
  generalize allO c x.buf (HG t x)=l at *
  obtain ⟨pc,seq,req,slow,round,i,j,tri,epoch,all_,base,buf,nxt,word,args,found,seen,pool,res,won,waits,scans⟩:=x
  dsimp only [HG,RO,rB] at *
  have e1:((isort KR found).map tOp).length=found.length:=by rw [fN,hle]
  cases slow
  ·rw [fT (by simp)] at *
   have e2:(isort KR found++[(⟨(t:Int),seq,0,req⟩:DOp)]).length=found.length+1:=by rw [fP,hle];rfl
   generalize isort KR found=so at *
   refine ZEN Tryz.func179 Tryz.ntmps179 ?_
   repeat' (first|refine Fx ?_|refine ZK2 (fun hc=>?_) (fun hc=>?_)|fail)
   all_goals exact A9 Tryz.results179
  ·rw [fR rfl] at *
   generalize isort KR found=so at *
   refine ZEN Tryz.func179 Tryz.ntmps179 ?_
   repeat' (first|refine Fx ?_|refine ZK2 (fun hc=>?_) (fun hc=>?_)|fail)
   all_goals exact A9 Tryz.results179
end
end
end
end Go.Proofs.YtccefppppedgkaaGreat
