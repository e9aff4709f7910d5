/- Joined: XTopN, XTopA, XTopB, XTopC, XTopD, XTopE, XTopF, XTopG, XTopH, XTopI. -/
import Derived.Test.YtccefppppedgkaaGreatKHx
import Derived.Test.YtccefppppedgkaaGreatKHw
import Derived.Test.YtccefppppedgkaaGreatKHv
set_option linter.unusedVariables false
set_option linter.unusedSimpArgs false
set_option linter.unnecessarySimpa false
set_option maxRecDepth 100000
set_option maxHeartbeats 64000000
namespace Go.Proofs.YtccefppppedgkaaGreat
instance (inn:Int) (outs:List Int) (j:Nat):Decidable (TE inn outs j):=by unfold TE;infer_instance
instance (inn:Int) (outs:List Int):Decidable (GY inn outs):=by unfold GY;infer_instance
def WG:FO:=⟨false,false,false,0,[],0,0⟩
def ZC (inn:Int) (outs:List Int):Option FO:=if GY inn outs then some ⟨true,false,false,inn,outs,0,0⟩ else none
def MW (p:FO):Option AU :=
 match nx p.on p.shut p.over p.inn p.outs p.at_ p.value with
 |.no=>none
 |.close h=>some ⟨4,h,0,false,[]⟩
 |.one k=>some ⟨3,0,0,false,[k]⟩
def gotP (p:FO) (r:Rst):FO :=
 let g:=got p.on p.shut p.over p.at_ p.value p.outs.length r.code r.value
 ⟨p.on,g.sh,g.ov,p.inn,p.outs,g.at_,g.v⟩
structure Mc where
 m:Mm
 tasks:List AC
 pumps:List FO
 notes:List JP
 turns:List CP
 steps:List Int
 most:List Int
 time:Int
 deriving DecidableEq,Inhabited
def tkM (s:Mc) (t:Nat):AC:=s.tasks.getD t AK
def puM (s:Mc) (t:Nat):FO:=s.pumps.getD t WG
def OW:Rst:=⟨0,0,0,0⟩
def IJ (c:AB) (x:AC) (q:AU):Option AC :=
 if x.pc=0∧BR q=true∧x.seq<c.seqs then some { AK with pc:=1,seq:=x.seq+1,req:=q,round:=1,pool:=x.pool } else none
def GC (c:AB) (s:Mc) (t:Nat) (q:AU):Option Mc :=
 match IJ c (tkM s t) q with
 |none=>none
 |some y=>some { s with tasks:=s.tasks.set t y,steps:=s.steps.set t 0,notes:=s.notes++[⟨1,t,y.seq,s.time,y.req,OW⟩]}
def AP (s:Mc):Mc:={ s with time:=s.time+1 }
def LE (s:Mc) (t:Nat) (q:AU):Bool:=decide ((tkM s t).pc=0) && !(puM s t).on&&BR q
def callM (c:AB) (s:Mc) (t:Nat) (q:AU):Mc :=
 if LE s t q then
  match GC c (AP s) t q with
  |some s'=>s'
  |none=>{ AP s with notes:=s.notes++[⟨1,t,0,s.time+1,q,OW⟩,⟨3,t,0,s.time+1,q,⟨0,0,7,0⟩⟩]}
 else s
def AhN (c:AB) (s:Mc) (t:Nat):Bool:=decide (c.kind=3)&&decide ((tkM s t).pc=0) && !(puM s t).on
def pumpM (c:AB) (s:Mc) (t:Nat) (inn:Int) (outs:List Int):Mc :=
 match ZC inn outs with
 |none=>s
 |some p=>if AhN c s t then { AP s with pumps:=s.pumps.set t p } else s
def goesM (c:AB) (s:Mc) (t:Nat):Mc :=
 match MW (puM s t) with
 |none=>s
 | some q =>
  if (tkM s t).pc=0 then
   match GC c s t q with
   |some s'=>s'
   |none=>{ s with pumps:=s.pumps.set t (gotP (puM s t) ⟨0,0,7,0⟩)}
  else s
def AX (s:Mc) (t:Nat):Mc :=
 if (tkM s t).waits then s else { s with steps:=s.steps.set t (s.steps.getD t 0+1),most:=s.most.set t (max (s.most.getD t 0) (s.steps.getD t 0+1))}
def wonM (s:Mc) (t:Nat) (o:SO):Mc:=if o.won then { s with turns:=s.turns++[⟨s.time,t,o.ops⟩]} else s
def noteM (s:Mc) (t:Nat) (o:SO):Mc:=if o.note=0 then s else { s with notes:=s.notes++[⟨o.note,t,o.x.seq,s.time,o.x.req,o.x.res⟩]}
def FQ (s:Mc) (t:Nat) (o:SO):Mc:=if o.note=3∧(puM s t).on=true then { s with pumps:=s.pumps.set t (gotP (puM s t) o.x.res)} else s
def LB (c:AB) (s:Mc) (t:Nat):Mc :=
 let o:=stepT c t (tkM s t) s.m
 FQ (noteM (wonM { s with m:=o.m,tasks:=s.tasks.set t o.x } t o) t o) t o
def pickM (c:AB) (s:Mc) (t:Nat):Mc :=
 let s1:=goesM c (AP s) t
 if (tkM s1 t).pc=0 then s1 else LB c (AX s1 t) t
def doM (c:AB) (s:Mc) (e:DB):Mc :=
 if 0≤e.thread∧e.thread<c.threads then
  if e.kind=1 then pickM c s e.thread.toNat
  else if e.kind=2 then callM c s e.thread.toNat e.req
  else if e.kind=3 then pumpM c s e.thread.toNat e.inn e.outs
  else s
 else s
def thrN (c:AB):Nat:=c.threads.toNat
def DC (c:AB):Mc :=
 ⟨⟨setupL c,[],[]⟩,(List.range (thrN c)).map (fun (t:Nat)=>{ AK with pool:=⟨⟨0,0⟩,poolL c t,[],0⟩}),List.replicate (thrN c) WG,[],[],List.replicate (thrN c) 0,List.replicate (thrN c) 0,0⟩
def AhK (c:AB) (l:List DB):Mc:=l.foldl (doM c) (DC c)
def AnK (c:AB) (s:Mc):List Int:=(s.m.w.drop (aNode c (rdI (ld s.m 0))+1).toNat).take (sizeC c).toNat
def exC:AB:=⟨3,2,2,1,5,2,1,999,99,3,[0,1]⟩
def exR (d h v:Int):AU:=⟨3,0,0,false,[⟨d,h,v⟩]⟩
def GH (t:Int):DB:=⟨1,t,⟨0,0,0,false,[]⟩,0,[]⟩
def HO (t:Int) (q:AU):DB:=⟨2,t,q,0,[]⟩
def exL:List DB:=HO 0 (exR 2 8 0)::(List.replicate 100 (GH 0)++(HO 1 (exR 1 8 7)::(List.range 200).map fun (i:Nat)=>GH (1-(i:Int)%2)))
def HU (s:Mc) (t:Nat):Bool:=decide ((tkM s t).pc=0)&&(MW (puM s t)).isNone
def AxL (s:Mc):Bool:=HU s 0&&HU s 1&&decide (s.notes.length=5)&&decide ((s.notes.getD 1 default).kind=2)&&decide ((tkM s 0).res.value=7)&&decide ((tkM s 1).res.code=0)&&decide (s.turns.length=2)
end Go.Proofs.YtccefppppedgkaaGreat
namespace Go.Proofs.YtccefppppedgkaaGreat
theorem VD (c:AB) (x:AC) : ∃p,againT c x={ x with pc:=p }∧(p=16∧x.slow=false∨p=19∧x.slow=true∨p=3):=by
 unfold againT
 refine ⟨_,rfl,?_⟩
 split
 ·rename_i h;exact .inl ⟨rfl,h.1⟩
 ·split
  ·rename_i h;exact .inr (.inl ⟨rfl,h.1⟩)
  ·exact .inr (.inr rfl)
theorem HP (c:AB) (x:AC) : ∃p,failT c x={ x with round:=x.round+1,found:=[],pc:=p }∧(p=16∧x.slow=false∨p=19∧x.slow=true∨p=3):=by
 obtain ⟨p,e,h⟩:=VD c { x with round:=x.round+1,found:=[]}
 exact ⟨p,e,h⟩
theorem IE (c:AB) (x:AC) : ∃p sc r,takeT c x={ x with pool:=takeP c.tags x.pool,pc:=p,scans:=sc,res:=r } ∧
    ((takeP c.tags x.pool).own.tag≠0∧sc=false∧r=x.res∧(p=16∧x.slow=false∨p=19∧x.slow=true∨p=3) ∨
     (takeP c.tags x.pool).own.tag=0∧x.pool.old≠[]∧x.scans=false∧sc=true∧r=x.res∧p=24 ∨
     (takeP c.tags x.pool).own.tag=0∧sc=false∧p=28∧r=⟨x.seq,0,whyP (takeP c.tags x.pool),0⟩∧(x.pool.old=[]∨x.scans=true)):=by
  unfold takeT
  by_cases h:(takeP c.tags x.pool).own.tag=0
  · dsimp only
    rw [fT fH]
    by_cases h2:(takeP c.tags x.pool).old≠[]∧x.scans=false
    · rw [fR h2]
      exact ⟨_,_,_,rfl,.inr (.inl ⟨h,h2.1,h2.2,rfl,rfl,rfl⟩)⟩
    · rw [fT h2]
      refine ⟨_,_,_,rfl,.inr (.inr ⟨h,rfl,rfl,rfl,?_⟩)⟩
      by_cases h3:x.pool.old=[]
      · exact .inl h3
      · right
        cases hs:x.scans
        · exact absurd ⟨h3,hs⟩ h2
        · rfl
  · dsimp only
    rw [fR h]
    obtain ⟨p,e,hp⟩:=VD c { x with pool:=takeP c.tags x.pool,scans:=false }
    exact ⟨p,_,_,e,.inl ⟨h,rfl,rfl,hp⟩⟩
theorem JX (c:AB) (x:AC) : ∃i tr p,nextSeqT c x={ x with i:=i,tri:=tr,pc:=p }∧(x.i+1=c.threads∧i=0∧tr=0∧p=11∨x.i+1≠c.threads∧i=x.i+1∧tr=x.tri∧p=8):=by
 unfold nextSeqT
 by_cases h:x.i+1=c.threads
 ·rw [fR h];exact ⟨_,_,_,rfl,.inl ⟨h,rfl,rfl,rfl⟩⟩
 ·rw [fT h];exact ⟨_,_,_,rfl,.inr ⟨h,rfl,rfl,rfl⟩⟩
theorem FW (c:AB) (t:Nat) (x:AC) : ∃i p f n,nextMailT c t x={ x with i:=i,tri:=0,pc:=p,found:=f,nxt:=n } ∧
  (x.i+1<c.threads∧i=x.i+1∧p=11∧f=x.found∧n=x.nxt ∨ ¬x.i+1<c.threads∧i=0∧p=13∧f=HG t x∧n=allO c x.buf (HG t x)):=by
 unfold nextMailT
 by_cases h:x.i+1<c.threads
 ·rw [fR h];exact ⟨_,_,_,_,rfl,.inl ⟨h,rfl,rfl,rfl,rfl⟩⟩
 ·rw [fT h];exact ⟨_,_,_,_,rfl,.inr ⟨h,rfl,rfl,rfl,rfl⟩⟩
theorem EQ (c:AB) (x:AC):(x.scans=true∧scannedT c x=takeT c x)∨(x.scans=false∧scannedT c x={ x with pc:=28 }):=by
 unfold scannedT
 cases h:x.scans
 ·right;exact ⟨rfl,rfl⟩
 ·left;exact ⟨rfl,rfl⟩
theorem EP (c:AB) (x:AC) (m:Mm):(x.waits=true∧ownedT c x m=⟨finishT x,m,3,false,[]⟩)∨(x.waits=false∧needsP x.pool c.retire=true∧ownedT c x m=⟨{ x with pc:=24 },m,0,false,[]⟩)∨(x.waits=false∧needsP x.pool c.retire=false∧ownedT c x m=⟨{ x with pc:=28 },m,0,false,[]⟩):=by
 unfold ownedT
 cases h:x.waits
 ·cases h2:needsP x.pool c.retire
  ·right;right;exact ⟨rfl,rfl,rfl⟩
  ·right;left;exact ⟨rfl,rfl,rfl⟩
 ·left;exact ⟨rfl,rfl⟩
def begun (x:AC) (q:AU):AC:={ AK with pc:=1,seq:=x.seq+1,req:=q,round:=1,pool:=x.pool }
theorem PM {c:AB} {x:AC} {q:AU} {y:AC} (h:IJ c x q=some y):x.pc=0∧BR q=true∧x.seq<c.seqs∧y=begun x q:=by
 unfold IJ at h
 split at h
 ·rename_i h0;cases h;exact ⟨h0.1,h0.2.1,h0.2.2,rfl⟩
 ·cases h
theorem CK {c:AB} {s s':Mc} {t:Nat} {q:AU} (h:GC c s t q=some s'):(tkM s t).pc=0∧BR q=true∧(tkM s t).seq<c.seqs ∧
  s'={ s with tasks:=s.tasks.set t (begun (tkM s t) q),steps:=s.steps.set t 0,notes:=s.notes++[⟨1,t,(tkM s t).seq+1,s.time,q,OW⟩]}:=by
 unfold GC at h
 split at h
 ·cases h
 ·rename_i y hy
  obtain ⟨h1,h2,h3,rfl⟩:=PM hy
  cases h
  exact ⟨h1,h2,h3,rfl⟩
theorem SC {c:AB} {K:Mm→List AC→List CP→Prop}
  (hB : ∀m l u (t:Nat) q,K m l u→t<thrN c→(l.getD t AK).pc=0→BR q=true→(l.getD t AK).seq<c.seqs→K m (l.set t (begun (l.getD t AK) q)) u)
  (hS : ∀m l u (t:Nat) (z:Int),K m l u→t<thrN c→(l.getD t AK).pc≠0→K (stepT c t (l.getD t AK) m).m (l.set t (stepT c t (l.getD t AK) m).x) (if (stepT c t (l.getD t AK) m).won then u++[⟨z,t,(stepT c t (l.getD t AK) m).ops⟩] else u))
  {s:Mc} (h:K s.m s.tasks s.turns) (e:DB):K (doM c s e).m (doM c s e).tasks (doM c s e).turns:=by
 unfold doM
 split
 ·rename_i ht
  have htl:e.thread.toNat<thrN c:=by unfold thrN;omega
  generalize e.thread.toNat=t at *
  have hgo:K (goesM c (AP s) t).m (goesM c (AP s) t).tasks (goesM c (AP s) t).turns:=by
   unfold goesM
   split
   ·exact h
   ·split
    ·split
     ·rename_i s' hs'
      obtain ⟨h1,h2,h3,rfl⟩:=CK hs'
      exact hB _ _ _ t _ h htl h1 h2 h3
     ·exact h
    ·exact h
  split
  ·unfold pickM
   dsimp only
   generalize goesM c (AP s) t=s1 at *
   split
   ·exact hgo
   ·rename_i hpc
    have hc:(AX s1 t).m=s1.m∧(AX s1 t).tasks=s1.tasks∧(AX s1 t).turns=s1.turns:=by unfold AX;split<;>exact ⟨rfl,rfl,rfl⟩
    have htk:tkM (AX s1 t) t=s1.tasks.getD t AK:=by unfold tkM;rw [hc.2.1]
    have hst:=hS s1.m s1.tasks s1.turns t (AX s1 t).time hgo htl hpc
    unfold LB
    dsimp only
    rw [htk,hc.1,hc.2.1]
    generalize hO:stepT c t (s1.tasks.getD t AK) s1.m=o at *
    have hb : ∀q:Mc,(FQ q t o).m=q.m∧(FQ q t o).tasks=q.tasks∧(FQ q t o).turns=q.turns:=fun q=>by unfold FQ;split<;>exact ⟨rfl,rfl,rfl⟩
    have hn : ∀q:Mc,(noteM q t o).m=q.m∧(noteM q t o).tasks=q.tasks∧(noteM q t o).turns=q.turns:=fun q=>by unfold noteM;split<;>exact ⟨rfl,rfl,rfl⟩
    rw [(hb _).1,(hb _).2.1,(hb _).2.2,(hn _).1,(hn _).2.1,(hn _).2.2]
    unfold wonM
    cases hw:o.won
    ·rw [hw] at hst
     simp only [iM,jL] at hst ⊢
     rw [hc.2.2];exact hst
    ·rw [hw] at hst
     simp only [jU] at hst ⊢
     rw [hc.2.2];exact hst
  ·split
   ·unfold callM
    split
    ·split
     ·rename_i s' hs'
      obtain ⟨h1,h2,h3,rfl⟩:=CK hs'
      exact hB _ _ _ t _ h htl h1 h2 h3
     ·exact h
    ·exact h
   ·split
    ·unfold pumpM
     split
     ·exact h
     ·split
      ·exact h
      ·exact h
    ·exact h
 ·exact h
end Go.Proofs.YtccefppppedgkaaGreat
namespace Go.Proofs.YtccefppppedgkaaGreat
structure Okc (c:AB):Prop where
 ok:AZ c=true
 big:totL c≤1048576
structure W0 (x:AC):Prop where
 won:x.won=false
 wai:x.waits=false
 sca:x.scans=false
def At (c:AB) (x:AC):Nat→Prop
 |0=>W0 x
 |1=>W0 x
 |2=>W0 x
 |3=>W0 x∧x.pool.own.tag≠0
 |4=>W0 x∧x.pool.own.tag≠0
 |5=>W0 x∧x.pool.own.tag≠0
 |6=>W0 x∧x.pool.own.tag≠0
 |7=>(W0 x∧x.pool.own.tag≠0)∧0≤x.i∧x.i<sizeC c∧(x.buf.length:Int)=x.i
 |8=>(W0 x∧x.pool.own.tag≠0)∧(0≤x.i∧x.i<c.threads)∧(x.buf.length:Int)=sizeC c
 |9=>(W0 x∧x.pool.own.tag≠0)∧(0≤x.i∧x.i<c.threads)∧(x.buf.length:Int)=sizeC c∧0≤x.j∧x.j<5∧(x.args.length:Int)=x.j
 |10=>(W0 x∧x.pool.own.tag≠0)∧(0≤x.i∧x.i<c.threads)∧(x.buf.length:Int)=sizeC c∧x.args.length=5
 |11=>(W0 x∧x.pool.own.tag≠0)∧(0≤x.i∧x.i<c.threads)∧(x.buf.length:Int)=sizeC c
 |12=>(W0 x∧x.pool.own.tag≠0)∧(0≤x.i∧x.i<c.threads)∧(x.buf.length:Int)=sizeC c
 |13=>(W0 x∧x.pool.own.tag≠0)∧(x.buf.length:Int)=sizeC c∧(x.nxt.length:Int)=sizeC c∧x.i=0
 |14=>(W0 x∧x.pool.own.tag≠0)∧(x.buf.length:Int)=sizeC c∧(x.nxt.length:Int)=sizeC c∧0≤x.i∧x.i<sizeC c
 |15=>(W0 x∧x.pool.own.tag≠0)∧(x.buf.length:Int)=sizeC c∧(x.nxt.length:Int)=sizeC c
 |16=>W0 x∧x.pool.own.tag≠0
 |17=>(W0 x∧x.pool.own.tag≠0)∧0≤x.j∧x.j<5∧x.args.length=5
 |18=>W0 x∧x.pool.own.tag≠0
 |19=>W0 x∧x.pool.own.tag≠0
 |20=>x.waits=false∧x.scans=false
 |21=>x.won=true∧x.waits=false∧x.scans=false
 |22=>x.scans=false∧(x.waits=true→x.won=false)
 |23=>x.scans=false∧(x.waits=true→x.won=false)
 |24=>x.waits=false∧(x.scans=true→x.won=false)
 |25=>(x.waits=false∧(x.scans=true→x.won=false))∧0≤x.i∧x.i<c.threads
 |26=>(x.waits=false∧(x.scans=true→x.won=false))∧x.i=0∧x.seen.length=0
 |27=>(x.waits=false∧(x.scans=true→x.won=false))∧(0≤x.i∧x.i<c.threads)∧(x.seen.length:Int)=x.i
 |28=>x.waits=false∧x.scans=false
 |k=>k≤38∧x.won=false∧x.waits=true∧x.scans=false
structure AQ (c:AB) (x:AC):Prop where
 pc0:0≤x.pc
 seq:0≤x.seq∧x.seq≤c.seqs
 fit:x.pc≠0→BR x.req=true
 at_:At c x x.pc.toNat
theorem k5_ {q:AU} {p:Int} (h:BR q=true):(IL q p).length=5:=by
 unfold IL HM
 rw [fR h]
 simp [CW]
theorem k1_ (c:AB) (l:List Int) (t n:Int) (q:AU):(FN c l t n q).length=l.length:=by
 unfold FN
 split
 ·rename_i hm
  have hq:BR q=true∧(0≤n∧n≤1048575):=by
   unfold AtF at hm
   simp only [gG,gM] at hm
   exact ⟨hm.2,hm.1.2⟩
  split
  ·split
   ·rename_i h
    have h1:=AbH (PT (t:=t) (OL h).1 hq.1 hq.2)
    have e1:((putH c (applyH c (readH c l) t n q)).length:Int)=sizeC c:=by
     have:=h1.1
     unfold HF at this
     simp only [gG,gM] at this
     exact this.1.2
    have e2:(l.length:Int)=sizeC c:=by
     unfold HF at h
     simp only [gG,gM] at h
     exact h.1.2
    omega
   ·rfl
  ·split
   ·rename_i h
    have h1:=AbI (PV (t:=t) (lifo:=decide (c.kind=2)) (OM h).1 hq.1 hq.2)
    have e1:((putX c (appX (decide (c.kind=2)) (readX c l) t n q)).length:Int)=sizeC c:=by
     have:=h1.1
     unfold FV at this
     simp only [gG,gM] at this
     exact this.1.2
    have e2:(l.length:Int)=sizeC c:=by
     unfold FV at h
     simp only [gG,gM] at h
     exact h.1.2
    omega
   ·rfl
 ·rfl
theorem ZS (c:AB) (ops:List DOp) : ∀l:List Int,(allO c l ops).length=l.length:=by
 induction ops with
 |nil=>intro l;rfl
 |cons o ops ih=>intro l;unfold allO at *;rw [lF,ih,k1_]
variable {c:AB}
theorem Okc.facts (h:Okc c):1≤c.threads∧c.threads≤64∧2≤sizeC c∧sizeC c≤393∧c.threads≤sizeC c∧1≤c.retire∧0≤c.seqs∧c.seqs≤1048575∧1≤c.tags∧c.tags≤4294967295:=by
 have hs:=AJ h.ok
 have hb:=GW c
 have h0:=h.ok
 unfold AZ at h0
 simp only [gG,BX] at h0
 have hz:1+c.threads≤sizeC c:=by
  unfold sizeC stateC
  rw [fR h.ok,fR h.ok]
  split
  ·rename_i hk
   obtain ⟨a,b,d,e⟩:=hs.h3 hk
   have:=jZ (show 0≤c.chans by omega) (show 0≤1+c.cap by omega)
   omega
  ·rename_i hk
   have:=hs.h1 hk
   omega
 omega
variable {t:Nat} {x:AC}
theorem AE {m:Mm} {k:Nat} (h:x.pc=(k:Int)):stepT c t x m=AN k c t x m:=by
 unfold stepT
 rw [h,gE]
theorem AQ.le (h:AQ c x):x.pc≤38:=by
 have:=h.at_
 by_cases hk:38<x.pc.toNat
 ·obtain ⟨k,hk2⟩ : ∃k,x.pc.toNat=k+39:=⟨x.pc.toNat-39,by omega⟩
  rw [hk2] at this
  have:=this.1
  omega
 ·omega
theorem BA (h:AQ c x) : ∃k:Nat,x.pc=(k:Int)∧k≤38∧At c x k:=⟨x.pc.toNat,by have:=h.pc0;omega,by have:=h.le;omega,h.at_⟩
theorem AS {k:Nat} (hk:k≤38):k=0∨k=1∨k=2∨k=3∨k=4∨k=5∨k=6∨k=7∨k=8∨k=9∨k=10∨k=11∨k=12∨k=13∨k=14∨k=15∨k=16∨k=17∨k=18∨k=19∨k=20∨k=21∨k=22∨k=23∨k=24∨k=25∨k=26∨k=27∨k=28∨k=29∨k=30∨k=31∨k=32∨k=33∨k=34∨k=35∨k=36∨k=37∨k=38:=by omega
theorem VV {x y:AC} {p:Int} (hp:p=16∧x.slow=false∨p=19∧x.slow=true∨p=3) (e:y.pc=p) (h:W0 y∧y.pool.own.tag≠0) (hs:0≤y.seq∧y.seq≤c.seqs) (hf:BR y.req=true):AQ c y:=by
 rcases hp with ⟨rfl,_⟩|⟨rfl,_⟩|rfl
 all_goals exact ⟨by rw [e];decide,hs,fun _=>hf,by rw [e];exact h⟩
theorem SX (h:AQ c x) (hf:BR x.req=true) (ha:W0 x∧x.pool.own.tag≠0):AQ c (failT c x):=by
 obtain ⟨p,e,hp⟩:=HP c x
 rw [e]
 exact VV (x:=x) hp rfl ⟨⟨ha.1.won,ha.1.wai,ha.1.sca⟩,ha.2⟩ h.seq hf
theorem d1_ (hs:0≤x.seq∧x.seq≤c.seqs) (hf:BR x.req=true) (h1:x.won=false) (h2:x.waits=false):AQ c (takeT c x):=by
 obtain ⟨p,sc,r,e,hp⟩:=IE c x
 rw [e]
 rcases hp with ⟨g1,rfl,rfl,hp⟩|⟨g1,g2,g3,rfl,rfl,rfl⟩|⟨g1,rfl,rfl,rfl,g2⟩
 ·exact VV (x:=x) hp rfl ⟨⟨h1,h2,rfl⟩,g1⟩ hs hf
 ·exact ⟨aD,hs,fun _=>hf,h2,fun _=>h1⟩
 ·exact ⟨aD,hs,fun _=>hf,h2,rfl⟩
theorem GR (hs:0≤x.seq∧x.seq≤c.seqs) (hf:BR x.req=true) (ht:1≤c.threads) (h:W0 x∧x.pool.own.tag≠0) (hi:0≤x.i∧x.i<c.threads) (hb:(x.buf.length:Int)=sizeC c):AQ c (nextSeqT c x):=by
 obtain ⟨i,tr,p,e,hp⟩:=JX c x
 rw [e]
 have hw : ∀y:AC,y.won=x.won→y.waits=x.waits→y.scans=x.scans→W0 y:=fun y a b d=>⟨a.trans h.1.won,b.trans h.1.wai,d.trans h.1.sca⟩
 rcases hp with ⟨g,rfl,rfl,rfl⟩|⟨g,rfl,rfl,rfl⟩
 ·exact ⟨aD,hs,fun _=>hf,⟨hw _ rfl rfl rfl,h.2⟩,⟨aD,by dsimp only;omega⟩,hb⟩
 ·exact ⟨aD,hs,fun _=>hf,⟨hw _ rfl rfl rfl,h.2⟩,⟨by dsimp only;omega,by dsimp only;omega⟩,hb⟩
theorem MP (hs:0≤x.seq∧x.seq≤c.seqs) (hf:BR x.req=true) (h:W0 x∧x.pool.own.tag≠0) (hi:0≤x.i∧x.i<c.threads) (hb:(x.buf.length:Int)=sizeC c):AQ c (nextMailT c t x):=by
 obtain ⟨i,p,fo,n,e,hp⟩:=FW c t x
 rw [e]
 have hw : ∀y:AC,y.won=x.won→y.waits=x.waits→y.scans=x.scans→W0 y:=fun y a b d=>⟨a.trans h.1.won,b.trans h.1.wai,d.trans h.1.sca⟩
 rcases hp with ⟨g,rfl,rfl,rfl,rfl⟩|⟨g,rfl,rfl,rfl,rfl⟩
 ·exact ⟨aD,hs,fun _=>hf,⟨hw _ rfl rfl rfl,h.2⟩,⟨by dsimp only;omega,g⟩,hb⟩
 ·exact ⟨aD,hs,fun _=>hf,⟨hw _ rfl rfl rfl,h.2⟩,hb,by dsimp only;rw [ZS];exact hb,rfl⟩
theorem LJ (hs:0≤x.seq∧x.seq≤c.seqs):AQ c (finishT x):=⟨gL 0,hs,fun e=>absurd rfl e,rfl,rfl,rfl⟩
theorem VW {m:Mm} (hs:0≤x.seq∧x.seq≤c.seqs) (hf:BR x.req=true) (h:x.scans=false):AQ c (ownedT c x m).x:=by
 rcases EP c x m with ⟨h1,e⟩|⟨h1,h2,e⟩|⟨h1,h2,e⟩
 ·rw [e];exact LJ hs
 ·rw [e];exact ⟨aD,hs,fun _=>hf,h1,fun e=>by rw [show ({ x with pc:=24 }:AC).scans=x.scans from rfl,h] at e;cases e⟩
 ·rw [e];exact ⟨aD,hs,fun _=>hf,h1,h⟩
theorem JV (hs:0≤x.seq∧x.seq≤c.seqs) (hf:BR x.req=true) (h1:x.waits=false) (h2:x.scans=true→x.won=false):AQ c (scannedT c x):=by
 rcases EQ c x with ⟨g,e⟩|⟨g,e⟩
 ·rw [e];exact d1_ hs hf (h2 g) h1
 ·rw [e];exact ⟨aD,hs,fun _=>hf,h1,g⟩
theorem PF {m:Mm} (f:Okc c) (h:AQ c x) (h0:x.pc≠0):AQ c (stepT c t x m).x:=by
 have hz:=f.facts
 obtain ⟨k,hk,hk2,ha⟩:=BA h
 have hf:=h.fit h0
 have hs:=h.seq
 rw [AE hk]
 have hz:=AS hk2
 repeat' (rcases hz with rfl|hz)
 ·exact absurd hk h0
 ·show AQ c (s1 c t x m).x
  unfold s1
  exact ⟨aD,hs,fun _=>hf,⟨ha.won,ha.wai,ha.sca⟩⟩
 ·exact d1_ (x:=x) hs hf ha.won ha.wai
 ·show AQ c (s3 c t x m).x
  unfold s3
  exact ⟨aD,hs,fun _=>hf,⟨⟨ha.1.won,ha.1.wai,ha.1.sca⟩,ha.2⟩⟩
 ·show AQ c (s4 c t x m).x
  unfold s4
  exact ⟨aD,hs,fun _=>hf,⟨⟨ha.1.won,ha.1.wai,ha.1.sca⟩,ha.2⟩⟩
 ·show AQ c (s5 c t x m).x
  unfold s5
  dsimp only
  split
  ·exact ⟨aD,hs,fun _=>hf,⟨⟨ha.1.won,ha.1.wai,ha.1.sca⟩,ha.2⟩⟩
  ·exact SX h hf ha
 ·show AQ c (s6 c t x m).x
  unfold s6
  dsimp only
  split
  ·exact ⟨aD,hs,fun _=>hf,⟨⟨⟨ha.1.won,ha.1.wai,ha.1.sca⟩,ha.2⟩,aD,by dsimp only;omega,rfl⟩⟩
  ·exact SX h hf ha
 ·show AQ c (s7 c t x m).x
  unfold s7 BB
  dsimp only
  obtain ⟨⟨hw,ho⟩,h1,h2,h3⟩:=ha
  have hl : ∀w:Int,((x.buf++[w]).length:Int)=x.i+1:=fun w=>by rw [fP,gT];omega
  split
  ·exact ⟨h.pc0,hs,fun _=>hf,by show At c _ x.pc.toNat;rw [hk];exact ⟨⟨⟨hw.won,hw.wai,hw.sca⟩,ho⟩,by dsimp only;omega,by assumption,hl _⟩⟩
  ·split
   ·exact ⟨aD,hs,fun _=>hf,hw.wai,hw.sca⟩
   ·exact ⟨aD,hs,fun _=>hf,⟨⟨hw.won,hw.wai,hw.sca⟩,ho⟩,⟨aD,by dsimp only;omega⟩,by dsimp only;rw [hl];omega⟩
 ·show AQ c (s8 c t x m).x
  unfold s8
  dsimp only
  obtain ⟨⟨hw,ho⟩,h1,h2⟩:=ha
  split
  ·exact GR (x:={ x with word:=_ }) hs hf hz.1 ⟨⟨hw.won,hw.wai,hw.sca⟩,ho⟩ h1 h2
  ·exact ⟨aD,hs,fun _=>hf,⟨⟨hw.won,hw.wai,hw.sca⟩,ho⟩,h1,h2,aD,aD,rfl⟩
 ·show AQ c (s9 c t x m).x
  unfold s9
  dsimp only
  obtain ⟨⟨hw,ho⟩,h1,h2,h3,h4,h5⟩:=ha
  have hl : ∀w:Int,((x.args++[w]).length:Int)=x.j+1:=fun w=>by rw [fP,gT];omega
  split
  ·rename_i hj
   refine ⟨aD,hs,fun _=>hf,⟨⟨hw.won,hw.wai,hw.sca⟩,ho⟩,h1,h2,?_⟩
   dsimp only
   have:=hl (ld m (EI c x.i+x.j))
   omega
  ·exact ⟨h.pc0,hs,fun _=>hf,by show At c _ x.pc.toNat;rw [hk];exact ⟨⟨⟨hw.won,hw.wai,hw.sca⟩,ho⟩,h1,h2,by dsimp only;omega,by dsimp only;omega,hl _⟩⟩
 ·obtain ⟨⟨hw,ho⟩,h1,h2,h3⟩:=ha
  show AQ c (CE c x _)
  unfold CE
  split
  ·split
   ·exact GR (x:={ x with found:=_ }) hs hf hz.1 ⟨⟨hw.won,hw.wai,hw.sca⟩,ho⟩ h1 h2
   ·exact GR hs hf hz.1 ⟨hw,ho⟩ h1 h2
  ·exact GR hs hf hz.1 ⟨hw,ho⟩ h1 h2
 ·show AQ c (s11 c t x m).x
  unfold s11
  dsimp only
  obtain ⟨⟨hw,ho⟩,h1,h2⟩:=ha
  split
  ·exact ⟨aD,hs,fun _=>hf,⟨⟨hw.won,hw.wai,hw.sca⟩,ho⟩,h1,h2⟩
  ·exact MP (x:={ x with word:=_ }) hs hf ⟨⟨hw.won,hw.wai,hw.sca⟩,ho⟩ h1 h2
 ·show AQ c (s12 c t x m).x
  unfold s12
  dsimp only
  obtain ⟨⟨hw,ho⟩,h1,h2⟩:=ha
  split
  ·exact MP (x:={ x with tri:=_ }) hs hf ⟨⟨hw.won,hw.wai,hw.sca⟩,ho⟩ h1 h2
  ·exact ⟨aD,hs,fun _=>hf,⟨⟨hw.won,hw.wai,hw.sca⟩,ho⟩,h1,h2⟩
 ·show AQ c (s13 c t x m).x
  unfold s13
  obtain ⟨⟨hw,ho⟩,h1,h2,h3⟩:=ha
  exact ⟨aD,hs,fun _=>hf,⟨⟨hw.won,hw.wai,hw.sca⟩,ho⟩,h1,h2,by show 0≤x.i;omega,by show x.i<_;omega⟩
 ·show AQ c (s14 c t x m).x
  unfold s14
  dsimp only
  obtain ⟨⟨hw,ho⟩,h1,h2,h3,h4⟩:=ha
  split
  ·exact ⟨aD,hs,fun _=>hf,⟨⟨hw.won,hw.wai,hw.sca⟩,ho⟩,h1,h2⟩
  ·exact ⟨h.pc0,hs,fun _=>hf,by show At c _ x.pc.toNat;rw [hk];exact ⟨⟨⟨hw.won,hw.wai,hw.sca⟩,ho⟩,h1,h2,by dsimp only;omega,by dsimp only;omega⟩⟩
 ·show AQ c (s15 c t x m).x
  unfold s15
  split
  ·exact ⟨aD,hs,fun _=>hf,ha.1.1.wai,ha.1.1.sca⟩
  ·exact SX h hf ha.1
 ·show AQ c (s16 c t x m).x
  unfold s16
  exact ⟨aD,hs,fun _=>hf,⟨⟨ha.1.won,ha.1.wai,ha.1.sca⟩,ha.2⟩,aD,aD,k5_ hf⟩
 ·show AQ c (s17 c t x m).x
  unfold s17
  dsimp only
  obtain ⟨⟨hw,ho⟩,h1,h2,h3⟩:=ha
  split
  ·exact ⟨aD,hs,fun _=>hf,⟨hw.won,hw.wai,hw.sca⟩,ho⟩
  ·exact ⟨h.pc0,hs,fun _=>hf,by show At c _ x.pc.toNat;rw [hk];exact ⟨⟨⟨hw.won,hw.wai,hw.sca⟩,ho⟩,by dsimp only;omega,by dsimp only;omega,h3⟩⟩
 ·show AQ c (s18 c t x m).x
  unfold s18
  exact ⟨aD,hs,fun _=>hf,⟨⟨ha.1.won,ha.1.wai,ha.1.sca⟩,ha.2⟩⟩
 ·show AQ c (s19 c t x m).x
  unfold s19
  exact ⟨aD,hs,fun _=>hf,ha.1.wai,ha.1.sca⟩
 ·show AQ c (s20 c t x m).x
  unfold s20
  dsimp only
  cases hw:x.won
  ·exact ⟨aD,hs,fun _=>hf,ha.2,fun _=>rfl⟩
  ·exact ⟨aD,hs,fun _=>hf,rfl,ha.1,ha.2⟩
 ·show AQ c (s21 c t x m).x
  unfold s21
  exact ⟨aD,hs,fun _=>hf,ha.2.2,fun e=>by rw [show _=x.waits from rfl,ha.2.1] at e;cases e⟩
 ·show AQ c (s22 c t x m).x
  unfold s22
  dsimp only
  split
  ·exact ⟨aD,hs,fun _=>hf,ha.1,ha.2⟩
  ·exact VW (x:={ x with word:=_ }) hs hf ha.1
 ·show AQ c (s23 c t x m).x
  unfold s23
  dsimp only
  split
  ·exact VW (x:={ x with tri:=_,pc:=22 }) hs hf ha.1
  ·exact ⟨aD,hs,fun _=>hf,ha.1,ha.2⟩
 ·show AQ c (s24 c t x m).x
  unfold s24
  dsimp only
  split
  ·exact ⟨aD,hs,fun _=>hf,⟨ha.1,ha.2⟩,aD,by dsimp only;omega⟩
  ·exact JV (x:={ x with word:=_,pool:=_,i:=0,all_:=true,pc:=25 }) hs hf ha.1 ha.2
 ·show AQ c (s25 c t x m).x
  unfold s25
  dsimp only
  obtain ⟨h1,h2,h3⟩:=ha
  split
  ·exact ⟨h.pc0,hs,fun _=>hf,by show At c _ x.pc.toNat;rw [hk];exact ⟨h1,by dsimp only;omega,by assumption⟩⟩
  ·split
   ·exact ⟨aD,hs,fun _=>hf,h1,rfl,rfl⟩
   ·exact ⟨aD,hs,fun _=>hf,h1,⟨aD,by dsimp only;omega⟩,rfl⟩
 ·show AQ c (s26 c t x m).x
  unfold s26
  dsimp only
  obtain ⟨h1,h2,h3⟩:=ha
  have key : ∀p:BV,AQ c (if needsP p c.retire=true then { x with pc:=27,pool:=p } else scannedT c { x with pc:=27,pool:=p }):=fun p=>by
   split
   ·exact ⟨aD,hs,fun _=>hf,h1,⟨by dsimp only;omega,by dsimp only;omega⟩,by dsimp only;omega⟩
   ·exact JV (x:={ x with pc:=27,pool:=p }) hs hf h1.1 h1.2
  exact key _
 ·show AQ c (s27 c t x m).x
  unfold s27
  dsimp only
  obtain ⟨h1,h2,h3⟩:=ha
  have hl : ∀w:Int,((x.seen++[w]).length:Int)=x.i+1:=fun w=>by rw [fP,gT];omega
  split
  ·exact JV (x:={ x with seen:=_,i:=_,pool:=_ }) hs hf h1.1 h1.2
  ·exact ⟨h.pc0,hs,fun _=>hf,by show At c _ x.pc.toNat;rw [hk];exact ⟨h1,⟨by dsimp only;omega,by dsimp only;omega⟩,hl _⟩⟩
 ·show AQ c (s28 c t x m).x
  unfold s28
  split
  ·exact ⟨aD,hs,fun _=>hf,aD,rfl,rfl,rfl⟩
  ·exact LJ hs
 ·show AQ c (s29 c t x m).x
  unfold s29
  dsimp only
  split
  ·exact LJ (x:={ x with res:=_ }) hs
  ·exact ⟨aD,hs,fun _=>hf,aD,ha.2⟩
 ·show AQ c (s30 c t x m).x
  unfold s30
  exact ⟨aD,hs,fun _=>hf,aD,ha.2⟩
 ·show AQ c (s31 c t x m).x
  unfold s31
  exact ⟨aD,hs,fun _=>hf,aD,ha.2⟩
 ·show AQ c (s32 c t x m).x
  unfold s32
  exact ⟨aD,hs,fun _=>hf,aD,ha.2⟩
 ·show AQ c (s33 c t x m).x
  unfold s33
  exact ⟨aD,hs,fun _=>hf,aD,ha.2⟩
 ·show AQ c (s34 c t x m).x
  unfold s34
  dsimp only
  split
  all_goals exact ⟨aD,hs,fun _=>hf,aD,ha.2⟩
 ·show AQ c (s35 c t x m).x
  unfold s35
  dsimp only
  split
  all_goals exact ⟨aD,hs,fun _=>hf,aD,ha.2⟩
 ·show AQ c (s36 c t x m).x
  unfold s36
  exact ⟨aD,hs,fun _=>hf,aD,ha.2⟩
 ·show AQ c (s37 c t x m).x
  unfold s37
  exact ⟨aD,hs,fun _=>hf,aD,ha.2⟩
 ·show AQ c (s38 c t x m).x
  unfold s38
  dsimp only
  split
  ·exact ⟨aD,hs,fun _=>hf,ha.2.2.2,fun _=>ha.2.1⟩
  ·exact ⟨aD,hs,fun _=>hf,aD,ha.2⟩
end Go.Proofs.YtccefppppedgkaaGreat
namespace Go.Proofs.YtccefppppedgkaaGreat
theorem HD {m m':Mm} {a b v:Int} (h:m'.w=m.w.set a.toNat v) (ha:0≤a) (hl:a<(m.w.length:Int)) (hb:0≤b):ld m' b=if a=b then v else ld m b:=by
 unfold ld
 rw [h,fQ,gY,fQ]
 by_cases e:a=b
 ·subst e;rw [fR rfl,fR rfl,fR (by omega)];rfl
 ·rw [fT e,fT (by omega)]
theorem YA {m m':Mm} (h:m'.w=m.w) (b:Int):ld m' b=ld m b:=by unfold ld;rw [h]
theorem Okc.tot {c:AB} (h:Okc c):totL c=3+c.threads*9+nodesL c*(1+sizeC c)∧1≤nodesL c:=by
 have h1:=UK h.ok
 have h2:=DQ h.ok
 exact ⟨h1.2.1,h2.1⟩
theorem CI {c:AB} (h:Okc c) {i k:Int} (h0:0≤i) (h1:i<nodesL c) (k0:0≤k) (k1:k≤sizeC c):3+c.threads*9≤aNode c i+k∧aNode c i+k<totL c:=by
 obtain ⟨e,_⟩:=h.tot
 have f:=h.facts
 have a1:0≤i*(1+sizeC c):=jZ h0 (by omega)
 have a2:(i+1)*(1+sizeC c)≤nodesL c*(1+sizeC c):=iD (by omega) (by omega)
 rw [mP] at a2
 unfold aNode
 omega
theorem t3_ {c:AB} (h:Okc c) {i j k q:Int} (h0:0≤i) (h1:0≤j) (hne:i≠j) (k0:0≤k) (k1:k≤sizeC c) (q0:0≤q) (q1:q≤sizeC c):aNode c i+k≠aNode c j+q:=by
 have f:=h.facts
 unfold aNode
 rcases Int.lt_or_lt_of_ne hne with hl|hl
 ·have:=iD (show i+1≤j by omega) (show 0≤1+sizeC c by omega)
  rw [mP] at this
  omega
 ·have:=iD (show j+1≤i by omega) (show 0≤1+sizeC c by omega)
  rw [mP] at this
  omega
inductive WA (c:AB) (t:Nat) (x:AC) (m:Mm):Int→Int→Prop
 |root (hp:x.pc=15) (hr:ld m 0=wdF x.base):WA c t x m 0 (wdF x.pool.own)
 |glob (hp:x.pc=26) (hr:ld m 1=x.word):WA c t x m 1 (x.word+1)
 |phase (hp:x.pc=16) (v:Int):WA c t x m 2 v
 |epo (hp:x.pc=2∨x.pc=31):WA c t x m (aEpo c t) (GM x.epoch)
 |epo0 (hp:x.pc=28∨x.pc=38):WA c t x m (aEpo c t) 0
 |haz (hp:x.pc=4∨x.pc=33):WA c t x m (aHaz c t) (wdF x.base)
 |haz0 (hp:x.pc=20∨x.pc=37):WA c t x m (aHaz c t) 0
 |arg (hp:x.pc=17) (v:Int):WA c t x m (EI c t+x.j) v
 |seq (hp:x.pc=18):WA c t x m (aSeq c t) x.seq
 |mail (hp:x.pc=12) (v:Int):WA c t x m (aMail c x.i) v
 |mine (hp:x.pc=23) (v:Int):WA c t x m (aMail c t) v
 |tag (hp:x.pc=13):WA c t x m (aNode c x.pool.own.index) x.pool.own.tag
 |recd (hp:x.pc=14):WA c t x m (aNode c x.pool.own.index+1+x.i) (x.nxt.getD x.i.toNat 0)
theorem QG (m:Mm) (t:Nat) (a want x:Int):(swM m t a want x).w=if ld m a=want then m.w.set a.toNat x else m.w:=by unfold swM;split<;>rfl
theorem ED (c:AB) (x:AC) (m:Mm):(ownedT c x m).m=m:=by unfold ownedT;split;rfl;split<;>rfl
theorem ZE {c:AB} {t:Nat} {x:AC} {m:Mm} (h:AQ c x):(stepT c t x m).m.w=m.w ∨ ∃a v,WA c t x m a v∧(stepT c t x m).m.w=m.w.set a.toNat v:=by
 obtain ⟨k,hk,hk2,ha⟩:=BA h
 rw [AE hk]
 have hz:=AS hk2
 repeat' (rcases hz with rfl|hz)
 ·exact .inl rfl
 ·exact .inl rfl
 ·exact .inr ⟨_,_,.epo (.inl hk),rfl⟩
 ·exact .inl rfl
 ·exact .inr ⟨_,_,.haz (.inl hk),rfl⟩
 ·exact .inl rfl
 ·exact .inl rfl
 ·exact .inl rfl
 ·exact .inl rfl
 ·exact .inl rfl
 ·exact .inl rfl
 ·exact .inl rfl
 ·have e:(AN 12 c t x m).m.w=(swM m t (aMail c x.i) x.word (doneL c x.buf x.i)).w:=rfl
  rw [e,QG]
  split
  ·exact .inr ⟨_,_,.mail hk _,rfl⟩
  ·exact .inl rfl
 ·exact .inr ⟨_,_,.tag hk,rfl⟩
 ·exact .inr ⟨_,_,.recd hk,rfl⟩
 ·simp only [AN]
  unfold s15
  split
  ·rename_i e
   refine .inr ⟨_,_,.root hk e,?_⟩
   show (swM _ _ _ _ _).w=_
   rw [QG,fR e]
  ·rename_i e
   left
   show (swM _ _ _ _ _).w=_
   rw [QG,fT e]
 ·exact .inr ⟨_,_,.phase hk _,rfl⟩
 ·exact .inr ⟨_,_,.arg hk _,rfl⟩
 ·exact .inr ⟨_,_,.seq hk,rfl⟩
 ·exact .inl rfl
 ·exact .inr ⟨_,_,.haz0 (.inl hk),rfl⟩
 ·exact .inl rfl
 ·simp only [AN]
  unfold s22
  dsimp only
  split
  ·exact .inl rfl
  ·left;rw [ED];rfl
 ·simp only [AN]
  unfold s23
  dsimp only
  split
  ·rw [ED,QG]
   split
   ·refine .inr ⟨_,_,.mine hk _,rfl⟩
   ·exact .inl rfl
  ·left
   show (swM _ _ _ _ _).w=_
   rw [QG,fT (fun e=>by simp_all)]
 ·exact .inl rfl
 ·exact .inl rfl
 ·have e:(AN 26 c t x m).m.w=(swM m t 1 x.word (x.word+1)).w:=rfl
  rw [e,QG]
  split
  ·rename_i e
   exact .inr ⟨_,_,.glob hk e,rfl⟩
  ·exact .inl rfl
 ·exact .inl rfl
 ·simp only [AN]
  unfold s28
  dsimp only
  split
  ·exact .inr ⟨_,_,.epo0 (.inl hk),rfl⟩
  ·exact .inr ⟨_,_,.epo0 (.inl hk),rfl⟩
 ·simp only [AN]
  unfold s29
  dsimp only
  split
  ·exact .inl rfl
  ·exact .inl rfl
 ·exact .inl rfl
 ·exact .inr ⟨_,_,.epo (.inr hk),rfl⟩
 ·exact .inl rfl
 ·exact .inr ⟨_,_,.haz (.inr hk),rfl⟩
 ·exact .inl rfl
 ·exact .inl rfl
 ·exact .inl rfl
 ·exact .inr ⟨_,_,.haz0 (.inr hk),rfl⟩
 ·exact .inr ⟨_,_,.epo0 (.inr hk),rfl⟩
inductive AA (c:AB) (t:Nat) (x:AC):Int→Prop
 |root (hp:x.pc=15):AA c t x 0
 |glob (hp:x.pc=26):AA c t x 1
 |phase (hp:x.pc=16):AA c t x 2
 |epo (hp:x.pc=2∨x.pc=31∨x.pc=28∨x.pc=38):AA c t x (aEpo c t)
 |haz (hp:x.pc=4∨x.pc=33∨x.pc=20∨x.pc=37):AA c t x (aHaz c t)
 |arg (hp:x.pc=17):AA c t x (EI c t+x.j)
 |seq (hp:x.pc=18):AA c t x (aSeq c t)
 |mail (hp:x.pc=12):AA c t x (aMail c x.i)
 |mine (hp:x.pc=23):AA c t x (aMail c t)
 |tag (hp:x.pc=13):AA c t x (aNode c x.pool.own.index)
 |recd (hp:x.pc=14):AA c t x (aNode c x.pool.own.index+1+x.i)
theorem NP (m:Mm) (t:Nat) (a want v:Int) : ∃e:KQ,(swM m t a want v).log=m.log++[e]∧e.thread=t∧e.kind=3∧e.addr=a∧e.want=want∧(e.ok=true↔ld m a=want)∧(ld m a=want→e.now=v):=by
 unfold swM
 split
 ·rename_i h;exact ⟨_,rfl,rfl,rfl,rfl,rfl,⟨fun _=>h,fun _=>rfl⟩,fun _=>rfl⟩
 ·rename_i h;exact ⟨_,rfl,rfl,rfl,rfl,rfl,⟨fun e=>(by cases e),fun e=>absurd e h⟩,fun e=>absurd e h⟩
theorem EE {c:AB} {t:Nat} {x:AC} {m:Mm} (h:AQ c x) (h0:x.pc≠0) : ∃e:KQ,(stepT c t x m).m.log=m.log++[e]∧e.thread=t∧(e.kind=1∨AA c t x e.addr∧e.kind≠1) ∧
  (x.pc=15→e.kind=3∧e.addr=0∧e.want=wdF x.base∧(e.ok=true↔ld m 0=wdF x.base)∧(ld m 0=wdF x.base→e.now=wdF x.pool.own)):=by
 obtain ⟨k,hk,hk2,ha⟩:=BA h
 rw [AE hk]
 have hz:=AS hk2
 repeat' (rcases hz with rfl|hz)
 ·exact absurd hk h0
 ·exact ⟨_,rfl,rfl,.inl rfl,fun e=>by omega⟩
 ·exact ⟨_,rfl,rfl,.inr ⟨.epo (.inl hk),(by decide:(2:Int)≠1)⟩,fun e=>by omega⟩
 ·exact ⟨_,rfl,rfl,.inl rfl,fun e=>by omega⟩
 ·exact ⟨_,rfl,rfl,.inr ⟨.haz (.inl hk),(by decide:(2:Int)≠1)⟩,fun e=>by omega⟩
 ·exact ⟨_,rfl,rfl,.inl rfl,fun e=>by omega⟩
 ·exact ⟨_,rfl,rfl,.inl rfl,fun e=>by omega⟩
 ·exact ⟨_,rfl,rfl,.inl rfl,fun e=>by omega⟩
 ·exact ⟨_,rfl,rfl,.inl rfl,fun e=>by omega⟩
 ·exact ⟨_,rfl,rfl,.inl rfl,fun e=>by omega⟩
 ·exact ⟨_,rfl,rfl,.inl rfl,fun e=>by omega⟩
 ·exact ⟨_,rfl,rfl,.inl rfl,fun e=>by omega⟩
 ·show ∃e,(swM _ _ _ _ _).log=_∧_
  obtain ⟨e,e1,e2,e3,e4, -⟩:=NP m t (aMail c x.i) x.word (doneL c x.buf x.i)
  exact ⟨e,e1,e2,.inr ⟨by rw [e4];exact .mail hk,by rw [e3];decide⟩,fun e=>by omega⟩
 ·exact ⟨_,rfl,rfl,.inr ⟨.tag hk,(by decide:(2:Int)≠1)⟩,fun e=>by omega⟩
 ·exact ⟨_,rfl,rfl,.inr ⟨.recd hk,(by decide:(2:Int)≠1)⟩,fun e=>by omega⟩
 ·obtain ⟨e,e1,e2,e3,e4,e5⟩:=NP m t 0 (wdF x.base) (wdF x.pool.own)
  refine ⟨e,?_,e2,.inr ⟨by rw [e4];exact .root hk,by rw [e3];decide⟩,fun _=>⟨e3,e4,e5⟩⟩
  simp only [AN]
  unfold s15
  split
  ·exact e1
  ·exact e1
 ·exact ⟨_,rfl,rfl,.inr ⟨.phase hk,(by decide:(4:Int)≠1)⟩,fun e=>by omega⟩
 ·exact ⟨_,rfl,rfl,.inr ⟨.arg hk,(by decide:(2:Int)≠1)⟩,fun e=>by omega⟩
 ·exact ⟨_,rfl,rfl,.inr ⟨.seq hk,(by decide:(2:Int)≠1)⟩,fun e=>by omega⟩
 ·exact ⟨_,rfl,rfl,.inl rfl,fun e=>by omega⟩
 ·exact ⟨_,rfl,rfl,.inr ⟨.haz (.inr (.inr (.inl hk))),(by decide:(2:Int)≠1)⟩,fun e=>by omega⟩
 ·exact ⟨_,rfl,rfl,.inl rfl,fun e=>by omega⟩
 ·simp only [AN]
  unfold s22
  dsimp only
  split
  ·exact ⟨_,rfl,rfl,.inl rfl,fun e=>by omega⟩
  ·rw [ED];exact ⟨_,rfl,rfl,.inl rfl,fun e=>by omega⟩
 ·obtain ⟨e,e1,e2,e3,e4, -⟩:=NP m t (aMail c t) x.word (wordR x.res)
  refine ⟨e,?_,e2,.inr ⟨by rw [e4];exact .mine hk,by rw [e3];decide⟩,fun e=>by omega⟩
  simp only [AN]
  unfold s23
  dsimp only
  split
  ·rw [ED];exact e1
  ·exact e1
 ·exact ⟨_,rfl,rfl,.inl rfl,fun e=>by omega⟩
 ·exact ⟨_,rfl,rfl,.inl rfl,fun e=>by omega⟩
 ·show ∃e,(swM _ _ _ _ _).log=_∧_
  obtain ⟨e,e1,e2,e3,e4, -⟩:=NP m t 1 x.word (x.word+1)
  exact ⟨e,e1,e2,.inr ⟨by rw [e4];exact .glob hk,by rw [e3];decide⟩,fun e=>by omega⟩
 ·exact ⟨_,rfl,rfl,.inl rfl,fun e=>by omega⟩
 ·simp only [AN]
  unfold s28
  split
  ·exact ⟨_,rfl,rfl,.inr ⟨.epo (.inr (.inr (.inl hk))),(by decide:(2:Int)≠1)⟩,fun e=>by omega⟩
  ·exact ⟨_,rfl,rfl,.inr ⟨.epo (.inr (.inr (.inl hk))),(by decide:(2:Int)≠1)⟩,fun e=>by omega⟩
 ·simp only [AN]
  unfold s29
  dsimp only
  split
  ·exact ⟨_,rfl,rfl,.inl rfl,fun e=>by omega⟩
  ·exact ⟨_,rfl,rfl,.inl rfl,fun e=>by omega⟩
 ·exact ⟨_,rfl,rfl,.inl rfl,fun e=>by omega⟩
 ·exact ⟨_,rfl,rfl,.inr ⟨.epo (.inr (.inl hk)),(by decide:(2:Int)≠1)⟩,fun e=>by omega⟩
 ·exact ⟨_,rfl,rfl,.inl rfl,fun e=>by omega⟩
 ·exact ⟨_,rfl,rfl,.inr ⟨.haz (.inr (.inl hk)),(by decide:(2:Int)≠1)⟩,fun e=>by omega⟩
 ·exact ⟨_,rfl,rfl,.inl rfl,fun e=>by omega⟩
 ·exact ⟨_,rfl,rfl,.inl rfl,fun e=>by omega⟩
 ·exact ⟨_,rfl,rfl,.inl rfl,fun e=>by omega⟩
 ·exact ⟨_,rfl,rfl,.inr ⟨.haz (.inr (.inr (.inr hk))),(by decide:(2:Int)≠1)⟩,fun e=>by omega⟩
 ·exact ⟨_,rfl,rfl,.inr ⟨.epo (.inr (.inr (.inr hk))),(by decide:(2:Int)≠1)⟩,fun e=>by omega⟩
end Go.Proofs.YtccefppppedgkaaGreat
namespace Go.Proofs.YtccefppppedgkaaGreat
def FA (a b:List (Int × Int)):Prop:=(∀x∈a,x∈b)∧((b.map (·.1)).Nodup→(a.map (·.1)).Nodup)
theorem FA.refl (a:List (Int × Int)):FA a a:=⟨fun _ h=>h,fun h=>h⟩
theorem FA.of_eq {a b:List (Int × Int)} (h:a=b):FA a b:=h ▸ .refl a
theorem FA.of_perm {a b:List (Int × Int)} (h:a.Perm b):FA a b:=⟨fun _ hx=>h.mem_iff.1 hx,fun hn=>(h.map _).nodup_iff.2 hn⟩
theorem FA.of_sub {a b:List (Int × Int)} (h:a.Sublist b):FA a b:=⟨fun _ hx=>h.subset hx,fun hn=>hn.sublist (h.map _)⟩
theorem FA.trans {a b d:List (Int × Int)} (h:FA a b) (k:FA b d):FA a d:=⟨fun x hx=>k.1 x (h.1 x hx),fun hn=>h.2 (k.2 hn)⟩
def DT (x:AC):Bool:=x.won&&(decide (x.pc=20)||decide (x.pc=21))
def EC (p:BV):List (Int × Int):=(if p.own.tag=0 then [] else [(p.own.index,p.own.tag-1)])++(p.free.map (fun s=>(s.index,s.tag))++p.old.map (fun o=>(o.ref.index,o.ref.tag)))
def plc (x:AC):List (Int × Int):=EC x.pool++(if DT x then [(x.base.index,x.base.tag)] else [])
theorem IU {x:AC} (h:x.won=false):DT x=false:=by unfold DT;rw [h];rfl
theorem QT {x:AC} (h1:x.pc≠20) (h2:x.pc≠21):DT x=false:=by unfold DT;simp [h1,h2]
theorem OQ {x:AC} (h:DT x=false):plc x=EC x.pool:=by unfold plc;rw [h];simp
theorem LV (last i:Int) : ∀(l:List CR) (sp:Int),((takeL last i 0 sp l).t=0∧(takeL last i 0 sp l).F=[]) ∨
  ∃s r,(s::r).Sublist l∧LM s.index s.tag last=true∧(takeL last i 0 sp l).i=s.index∧(takeL last i 0 sp l).t=s.tag+1∧(takeL last i 0 sp l).F=r
 | [],sp=>.inl ⟨rfl,rfl⟩
 | s::l,sp=>by
  unfold takeL
  rw [fT (by simp)]
  cases h:LM s.index s.tag last
  ·rw [fT (by simp)]
   rcases LV last i l (IntKind.i64.wrap (sp+1)) with h1|⟨s',r,h1,h2⟩
   ·exact .inl h1
   ·exact .inr ⟨s',r,h1.cons _,h2⟩
  ·rw [fR rfl]
   refine .inr ⟨s,l,.refl _,h,?_,?_,rfl⟩
   ·unfold nxI;rw [fR h]
   ·unfold nxT;rw [fR h]
theorem WW {last:Int} {p:BV} (h:p.own.tag≠0):takeP last p=p:=by
 unfold takeP
 rw [PG h]
theorem WV (last:Int) (p:BV):FA (EC (takeP last p)) (EC p):=by
 by_cases h:p.own.tag=0
 ·have hz:=LV last p.own.index p.free p.spent
  have e:takeP last p=⟨⟨(takeL last p.own.index 0 p.spent p.free).i,(takeL last p.own.index 0 p.spent p.free).t⟩,(takeL last p.own.index 0 p.spent p.free).F,p.old,(takeL last p.own.index 0 p.spent p.free).sp⟩:=by unfold takeP;rw [h]
  rw [e]
  have e2:EC p=p.free.map (fun s=>(s.index,s.tag))++p.old.map (fun o=>(o.ref.index,o.ref.tag)):=by unfold EC;simp [h]
  rw [e2]
  generalize takeL last p.own.index 0 p.spent p.free=T at *
  obtain ⟨Ti,Tt,Ts,TF⟩:=T
  dsimp only at hz
  rcases hz with ⟨rfl,rfl⟩|⟨s,r,h1,h2,rfl,rfl,rfl⟩
  ·refine .of_sub ?_
   unfold EC
   simp only [jU,gX,gU]
   exact List.sublist_append_right _ _
  ·have h0:s.tag+1≠0:=by
    unfold LM at h2
    have:=jO h2
    omega
   refine .of_sub ?_
   unfold EC
   dsimp only
   simp only [fT h0,kA]
   have:=(h1.map fun s:CR=>(s.index,s.tag)).append_right (p.old.map fun o:CD=>(o.ref.index,o.ref.tag))
   simpa using this
 ·rw [WW h];exact .refl _
theorem WX {last:Int} {p:BV} (h:(takeP last p).own.tag≠0) (h0:p.own.tag≠0→1≤p.own.tag∧p.own.tag≤last):1≤(takeP last p).own.tag∧(takeP last p).own.tag≤last:=by
 by_cases e:p.own.tag=0
 ·unfold takeP at h ⊢
  rw [e] at h ⊢
  dsimp only at h ⊢
  rcases LV last p.own.index p.free p.spent with ⟨h1,h2⟩|⟨s,r,h1,h2,h3,h4,h5⟩
  ·exact absurd h1 h
  ·rw [h4]
   unfold LM at h2
   have:=jO h2
   omega
 ·rw [WW e];exact h0 e
theorem z_ (p:BV) (pr:CD→Bool):FA (EC (backP p pr)) (EC p):=by
 refine .of_perm ?_
 unfold EC backP FR EZ osl
 dsimp only
 refine List.Perm.append_left _ ?_
 rw [iP,gC]
 refine List.Perm.append_left _ ?_
 rw [lW]
 have h1:=(List.filter_append_perm pr p.old).map fun o:CD=>(o.ref.index,o.ref.tag)
 rw [iP] at h1
 exact h1
theorem SV (p:BV):FA (EC (leaveP p)) (EC p):=by
 refine .of_sub ?_
 unfold EC leaveP
 dsimp only
 rw [fR rfl,gU]
 exact List.sublist_append_right _ _
theorem AaL {p:BV} (h:p.own.tag≠0) (hn:((EC p).map (·.1)).Nodup) : ∀q∈EC (leaveP p),q.1≠p.own.index:=by
 intro q hq e
 unfold EC at hn hq
 rw [fT h,mK,gO,lG] at hn
 unfold leaveP at hq
 dsimp only at hq
 rw [fR rfl,gU] at hq
 exact hn.1 (iW.2 ⟨q,hq,e⟩)
theorem HW {pr:CD→Bool} {l:List CD} {o:CD}:o∈EZ pr l↔o∈l∧pr o=false:=by
 unfold EZ;rw [List.mem_filter];simp
end Go.Proofs.YtccefppppedgkaaGreat
namespace Go.Proofs.YtccefppppedgkaaGreat
variable {c:AB} {t:Nat} {x:AC} {m:Mm}
theorem ER (h:AQ c x) (h2:x.pc≠2) (h15:x.pc≠15) (h21:x.pc≠21) (h24:x.pc≠24) (h26:x.pc≠26) (h27:x.pc≠27):(stepT c t x m).x.pool=x.pool:=by
 obtain ⟨k,hk1,hk2, -⟩:=BA h
 rw [AE hk1]
 have hz:=AS hk2
 repeat' (rcases hz with rfl|hz)
 all_goals first|(exfalso;omega)|rfl|(simp only [AN,s1,s2,s3,s4,s5,s6,s7,s8,s9,s10,s11,s12,s13,s14,s15,s16,s17,s18,s19,s20,s21,s22,s23,s24,s25,s26,s27,s28,s29,s30,s31,s32,s33,s34,s35,s36,s37,s38,failT,againT,nextSeqT,nextMailT,CE,BB,ownedT,finishT,scannedT,takeT,refuseT];(repeat' split)<;>rfl)
theorem UD (h:AQ c x) (h15:x.pc≠15) (h22:x.pc≠22) (h23:x.pc≠23) (h28:x.pc≠28) (h29:x.pc≠29):(stepT c t x m).x.won=x.won:=by
 obtain ⟨k,hk1,hk2, -⟩:=BA h
 rw [AE hk1]
 have hz:=AS hk2
 repeat' (rcases hz with rfl|hz)
 all_goals first|(exfalso;omega)|rfl|(simp only [AN,s1,s2,s3,s4,s5,s6,s7,s8,s9,s10,s11,s12,s13,s14,s15,s16,s17,s18,s19,s20,s21,s22,s23,s24,s25,s26,s27,s28,s29,s30,s31,s32,s33,s34,s35,s36,s37,s38,failT,againT,nextSeqT,nextMailT,CE,BB,ownedT,finishT,scannedT,takeT,refuseT];(repeat' split)<;>rfl)
theorem KN (h:AQ c x) (h3:x.pc≠3) (h22:x.pc≠22) (h23:x.pc≠23) (h28:x.pc≠28) (h29:x.pc≠29) (h32:x.pc≠32):(stepT c t x m).x.base=x.base:=by
 obtain ⟨k,hk1,hk2, -⟩:=BA h
 rw [AE hk1]
 have hz:=AS hk2
 repeat' (rcases hz with rfl|hz)
 all_goals first|(exfalso;omega)|rfl|(simp only [AN,s1,s2,s3,s4,s5,s6,s7,s8,s9,s10,s11,s12,s13,s14,s15,s16,s17,s18,s19,s20,s21,s22,s23,s24,s25,s26,s27,s28,s29,s30,s31,s32,s33,s34,s35,s36,s37,s38,failT,againT,nextSeqT,nextMailT,CE,BB,ownedT,finishT,scannedT,takeT,refuseT];(repeat' split)<;>rfl)
theorem GK (h:AQ c x) (h1:x.pc≠1) (h22:x.pc≠22) (h23:x.pc≠23) (h28:x.pc≠28) (h29:x.pc≠29) (h30:x.pc≠30):(stepT c t x m).x.epoch=x.epoch:=by
 obtain ⟨k,hk1,hk2, -⟩:=BA h
 rw [AE hk1]
 have hz:=AS hk2
 repeat' (rcases hz with rfl|hz)
 all_goals first|(exfalso;omega)|rfl|(simp only [AN,s1,s2,s3,s4,s5,s6,s7,s8,s9,s10,s11,s12,s13,s14,s15,s16,s17,s18,s19,s20,s21,s22,s23,s24,s25,s26,s27,s28,s29,s30,s31,s32,s33,s34,s35,s36,s37,s38,failT,againT,nextSeqT,nextMailT,CE,BB,ownedT,finishT,scannedT,takeT,refuseT];(repeat' split)<;>rfl)
theorem ID (h:AQ c x):(stepT c t x m).x.req=x.req:=by
 obtain ⟨k,hk1,hk2, -⟩:=BA h
 rw [AE hk1]
 have hz:=AS hk2
 repeat' (rcases hz with rfl|hz)
 all_goals first|(exfalso;omega)|rfl|(simp only [AN,s1,s2,s3,s4,s5,s6,s7,s8,s9,s10,s11,s12,s13,s14,s15,s16,s17,s18,s19,s20,s21,s22,s23,s24,s25,s26,s27,s28,s29,s30,s31,s32,s33,s34,s35,s36,s37,s38,failT,againT,nextSeqT,nextMailT,CE,BB,ownedT,finishT,scannedT,takeT,refuseT];(repeat' split)<;>rfl)
end Go.Proofs.YtccefppppedgkaaGreat
namespace Go.Proofs.YtccefppppedgkaaGreat
theorem UG (c:AB) (x:AC):(takeT c x).pool=takeP c.tags x.pool:=by
 unfold takeT
 dsimp only
 split
 ·rfl
 ·split
  ·rfl
  ·rfl
theorem HI (c:AB) (x:AC):(scannedT c x).pool=x.pool∨(scannedT c x).pool=takeP c.tags x.pool:=by
 unfold scannedT
 split
 ·exact .inr (UG c x)
 ·exact .inl rfl
variable {c:AB} {t:Nat} {x:AC} {m:Mm}
theorem TN (h:x.pc=2):(stepT c t x m).x.pool=takeP c.tags x.pool:=by
 rw [AE (k:=2) h]
 exact UG c x
theorem JZ (h:x.pc=15) (hr:ld m 0=wdF x.base):(stepT c t x m).x={ x with won:=true,res:=readR (doneL c x.nxt t),pool:=leaveP x.pool,pc:=20 }:=by
 rw [AE (k:=15) h]
 show (s15 c t x m).x=_
 unfold s15
 rw [fR hr]
theorem HY (h:x.pc=15) (hr:ld m 0≠wdF x.base):(stepT c t x m).x=failT c x:=by
 rw [AE (k:=15) h]
 show (s15 c t x m).x=_
 unfold s15
 rw [fT hr]
theorem KL (h:x.pc=21):(stepT c t x m).x={ x with pool:=awayP x.pool x.base (ld m 1),pc:=22 }:=by
 rw [AE (k:=21) h];rfl
def DP (c:AB) (t:Nat) (x:AC) (m:Mm):BV :=
 if x.pc=24 then backP x.pool (prE (ld m 1))
 else if x.pc=26 then (if ld m 1=x.word then backP x.pool (prE (x.word+1)) else x.pool)
 else if x.pc=27∧x.i+1=c.threads then backP x.pool (prS (x.seen++[ld m (aHaz c x.i)])) else x.pool
theorem HZ (h:x.pc=24∨x.pc=26∨x.pc=27):(stepT c t x m).x.pool=DP c t x m∨(stepT c t x m).x.pool=takeP c.tags (DP c t x m):=by
 rcases h with h|h|h
 ·rw [AE (k:=24) h]
  unfold DP
  rw [fR h]
  show (s24 c t x m).x.pool=_∨(s24 c t x m).x.pool=_
  unfold s24
  dsimp only
  split
  ·exact .inl rfl
  ·exact HI c { x with word:=ld m 1,pool:=backP x.pool (prE (ld m 1)),i:=0,all_:=true,pc:=25 }
 ·rw [AE (k:=26) h]
  unfold DP
  rw [fT (by omega),fR h]
  show (s26 c t x m).x.pool=_∨(s26 c t x m).x.pool=_
  have key : ∀p:BV,(if needsP p c.retire=true then { x with pc:=27,pool:=p } else scannedT c { x with pc:=27,pool:=p }:AC).pool=p∨(if needsP p c.retire=true then { x with pc:=27,pool:=p } else scannedT c { x with pc:=27,pool:=p }:AC).pool=takeP c.tags p:=fun p=>by
   split
   ·exact .inl rfl
   ·exact HI c { x with pc:=27,pool:=p }
  exact key _
 ·rw [AE (k:=27) h]
  unfold DP
  rw [fT (by omega),fT (by omega)]
  show (s27 c t x m).x.pool=_∨(s27 c t x m).x.pool=_
  unfold s27
  dsimp only
  by_cases e:x.i+1=c.threads
  ·rw [fR e,fR ⟨h,e⟩]
   exact HI c { x with seen:=x.seen++[ld m (aHaz c x.i)],i:=x.i+1,pool:=backP x.pool (prS (x.seen++[ld m (aHaz c x.i)]))}
  ·rw [fT e,fT (fun g=>e g.2)]
   exact .inl rfl
theorem VX (c:AB) (t:Nat) (x:AC) (m:Mm):FA (EC (DP c t x m)) (EC x.pool):=by
 unfold DP
 repeat' split
 all_goals first|exact z_ _ _|exact .refl _
theorem QF (h:AQ c x) (hr : ¬(x.pc=15∧ld m 0=wdF x.base)) (hw:(stepT c t x m).x.won=true):x.won=true:=by
 by_cases h1:x.pc=15
 ·rw [HY h1 (fun e=>hr ⟨h1,e⟩)] at hw
  exact hw
 ·by_cases h2:x.pc=22∨x.pc=23∨x.pc=28∨x.pc=29
  ·revert hw
   rcases h2 with h2|h2|h2|h2
   ·rw [AE (k:=22) h2];simp only [AN,s22,ownedT,finishT];repeat' split
    all_goals first|exact id|(intro e;cases e)
   ·rw [AE (k:=23) h2];simp only [AN,s23,ownedT,finishT];repeat' split
    all_goals first|exact id|(intro e;cases e)
   ·rw [AE (k:=28) h2];simp only [AN,s28,finishT];repeat' split
    all_goals first|exact id|(intro e;cases e)
   ·rw [AE (k:=29) h2];simp only [AN,s29,finishT];repeat' split
    all_goals first|exact id|(intro e;cases e)
  ·rw [UD h h1 (by omega) (by omega) (by omega) (by omega)] at hw
   exact hw
theorem AQ.wonpc (h:AQ c x) (hw:x.won=true):20≤x.pc∧x.pc≤28:=by
 obtain ⟨k,hk1,hk2,ha⟩:=BA h
 have hz:=AS hk2
 repeat' (rcases hz with rfl|hz)
 all_goals first
  |omega
  |(exfalso;have:=ha.won;rw [hw] at this;cases this)
  |(exfalso;have:=ha.1.won;rw [hw] at this;cases this)
  |(exfalso;have:=ha.1.1.won;rw [hw] at this;cases this)
  |(exfalso;have:=ha.2.1;rw [hw] at this;cases this)
theorem AQ.won21 (h:AQ c x) (hp:x.pc=21):x.won=true:=by
 have ha:=h.at_
 rw [hp] at ha
 exact ha.1
theorem u3_ (h:x.pc=20):(stepT c t x m).x={ x with tri:=0,pc:=if x.won then 21 else 22 }:=by
 rw [AE (k:=20) h];rfl
theorem UC (h:AQ c x) (hw:x.won=true) (h1:x.pc≠20):DT (stepT c t x m).x=false:=by
 have hp:=h.wonpc hw
 obtain ⟨k,hk1,hk2,ha⟩:=BA h
 rw [AE hk1]
 have hz:=AS hk2
 repeat' (rcases hz with rfl|hz)
 all_goals first
  |(exfalso;omega)
  |(refine QT ?_ ?_<;>(simp only [AN,s20,s21,s22,s23,s24,s25,s26,s27,s28,ownedT,finishT,AK,scannedT,takeT,refuseT,againT];(repeat' split)<;>first|decide|(dsimp only;decide)|(dsimp only;omega)))
theorem AeI (h:AQ c x) (hr : ¬(x.pc=15∧ld m 0=wdF x.base)):FA (plc (stepT c t x m).x) (plc x):=by
 have hP:FA (EC (stepT c t x m).x.pool) (EC x.pool)∨x.pc=21:=by
  by_cases h2:x.pc=2
  ·rw [TN h2];exact .inl (WV _ _)
  ·by_cases h15:x.pc=15
   ·rw [HY h15 (fun e=>hr ⟨h15,e⟩)];exact .inl (.refl _)
   ·by_cases hl:x.pc=24∨x.pc=26∨x.pc=27
    ·rcases HZ (t:=t) (m:=m) (c:=c) hl with e|e
     ·rw [e];exact .inl (VX _ _ _ _)
     ·rw [e];exact .inl ((WV _ _).trans (VX _ _ _ _))
    ·by_cases h21:x.pc=21
     ·exact .inr h21
     ·rw [ER h h2 h15 h21 (by omega) (by omega) (by omega)];exact .inl (.refl _)
 rcases hP with hP|h21
 ·have hi:DT (stepT c t x m).x=false∨(DT x=true∧(stepT c t x m).x.pool=x.pool∧(stepT c t x m).x.base=x.base):=by
   cases hw:(stepT c t x m).x.won
   ·exact .inl (IU hw)
   ·have hxw:=QF h hr hw
    by_cases h20:x.pc=20
    ·right
     refine ⟨by unfold DT;rw [hxw,h20];rfl,?_,?_⟩
     ·rw [u3_ h20]
     ·rw [u3_ h20]
    ·exact .inl (UC h hxw h20)
  rcases hi with hi|⟨h1,h2,h3⟩
  ·rw [OQ hi]
   exact hP.trans (.of_sub (List.sublist_append_left _ _))
  ·by_cases h4:DT (stepT c t x m).x=true
   ·refine .of_eq ?_
    unfold plc
    rw [h1,h2,h3,h4]
   ·rw [OQ (by simpa using h4)]
    exact hP.trans (.of_sub (List.sublist_append_left _ _))
 ·refine .of_eq ?_
  have hw:=h.won21 h21
  rw [KL h21]
  unfold plc EC awayP
  have e1:DT ({ x with pool:=⟨x.pool.own,x.pool.free,x.pool.old++[⟨x.base,ld m 1⟩],x.pool.spent⟩,pc:=22 }:AC)=false:=QT (by dsimp only;decide) (by dsimp only;decide)
  have e2:DT x=true:=by unfold DT;rw [hw,h21];rfl
  rw [e1,e2]
  simp
end Go.Proofs.YtccefppppedgkaaGreat
namespace Go.Proofs.YtccefppppedgkaaGreat
def BW:Nat→List Int
 |1=>[2]
 |2=>[16,19,3,24,28]
 |3=>[4]
 |4=>[5]
 |5=>[6,16,19,3]
 |6=>[7,16,19,3]
 |7=>[7,20,8]
 |8=>[11,8,9]
 |9=>[10,9]
 |10=>[11,8]
 |11=>[12,11,13]
 |12=>[11,13]
 |13=>[14]
 |14=>[15,14]
 |15=>[20,16,19,3]
 |16=>[17]
 |17=>[18,17]
 |18=>[3]
 |19=>[20]
 |20=>[21,22]
 |21=>[22]
 |22=>[23,0,24,28]
 |23=>[0,24,28,22]
 |24=>[25,28,16,19,3,24]
 |25=>[25,26,27]
 |26=>[27,28,16,19,3,24]
 |27=>[27,28,16,19,3,24]
 |28=>[29,0]
 |29=>[0,30]
 |30=>[31]
 |31=>[32]
 |32=>[33]
 |33=>[34]
 |34=>[35,37]
 |35=>[36,37]
 |36=>[37]
 |37=>[38]
 |38=>[22,29]
 |_=>[]
variable {c:AB} {t:Nat} {x:AC} {m:Mm}
theorem AoF (h:AQ c x) (h0:x.pc≠0):(stepT c t x m).x.pc∈BW x.pc.toNat:=by
 obtain ⟨k,hk1,hk2, -⟩:=BA h
 rw [AE hk1,hk1,gE]
 have hz:=AS hk2
 repeat' (rcases hz with rfl|hz)
 ·exact absurd hk1 h0
 ·simp only [AN,s1,failT,againT,nextSeqT,nextMailT,CE,BB,ownedT,finishT,AK,scannedT,takeT,refuseT]
  (repeat' split)<;>simp [BW]
 ·simp only [AN,s2,failT,againT,nextSeqT,nextMailT,CE,BB,ownedT,finishT,AK,scannedT,takeT,refuseT]
  (repeat' split)<;>simp [BW]
 ·simp only [AN,s3,failT,againT,nextSeqT,nextMailT,CE,BB,ownedT,finishT,AK,scannedT,takeT,refuseT]
  (repeat' split)<;>simp [BW]
 ·simp only [AN,s4,failT,againT,nextSeqT,nextMailT,CE,BB,ownedT,finishT,AK,scannedT,takeT,refuseT]
  (repeat' split)<;>simp [BW]
 ·simp only [AN,s5,failT,againT,nextSeqT,nextMailT,CE,BB,ownedT,finishT,AK,scannedT,takeT,refuseT]
  (repeat' split)<;>simp [BW]
 ·simp only [AN,s6,failT,againT,nextSeqT,nextMailT,CE,BB,ownedT,finishT,AK,scannedT,takeT,refuseT]
  (repeat' split)<;>simp [BW]
 ·simp only [AN,s7,failT,againT,nextSeqT,nextMailT,CE,BB,ownedT,finishT,AK,scannedT,takeT,refuseT]
  (repeat' split)<;>simp [BW,hk1]
 ·simp only [AN,s8,failT,againT,nextSeqT,nextMailT,CE,BB,ownedT,finishT,AK,scannedT,takeT,refuseT]
  (repeat' split)<;>simp [BW]
 ·simp only [AN,s9,failT,againT,nextSeqT,nextMailT,CE,BB,ownedT,finishT,AK,scannedT,takeT,refuseT]
  (repeat' split)<;>simp [BW,hk1]
 ·simp only [AN,s10,failT,againT,nextSeqT,nextMailT,CE,BB,ownedT,finishT,AK,scannedT,takeT,refuseT]
  (repeat' split)<;>simp [BW]
 ·simp only [AN,s11,failT,againT,nextSeqT,nextMailT,CE,BB,ownedT,finishT,AK,scannedT,takeT,refuseT]
  (repeat' split)<;>simp [BW]
 ·simp only [AN,s12,failT,againT,nextSeqT,nextMailT,CE,BB,ownedT,finishT,AK,scannedT,takeT,refuseT]
  (repeat' split)<;>simp [BW]
 ·simp only [AN,s13,failT,againT,nextSeqT,nextMailT,CE,BB,ownedT,finishT,AK,scannedT,takeT,refuseT]
  (repeat' split)<;>simp [BW]
 ·simp only [AN,s14,failT,againT,nextSeqT,nextMailT,CE,BB,ownedT,finishT,AK,scannedT,takeT,refuseT]
  (repeat' split)<;>simp [BW,hk1]
 ·simp only [AN,s15,failT,againT,nextSeqT,nextMailT,CE,BB,ownedT,finishT,AK,scannedT,takeT,refuseT]
  (repeat' split)<;>simp [BW]
 ·simp only [AN,s16,failT,againT,nextSeqT,nextMailT,CE,BB,ownedT,finishT,AK,scannedT,takeT,refuseT]
  (repeat' split)<;>simp [BW]
 ·simp only [AN,s17,failT,againT,nextSeqT,nextMailT,CE,BB,ownedT,finishT,AK,scannedT,takeT,refuseT]
  (repeat' split)<;>simp [BW,hk1]
 ·simp only [AN,s18,failT,againT,nextSeqT,nextMailT,CE,BB,ownedT,finishT,AK,scannedT,takeT,refuseT]
  (repeat' split)<;>simp [BW]
 ·simp only [AN,s19,failT,againT,nextSeqT,nextMailT,CE,BB,ownedT,finishT,AK,scannedT,takeT,refuseT]
  (repeat' split)<;>simp [BW]
 ·simp only [AN,s20,failT,againT,nextSeqT,nextMailT,CE,BB,ownedT,finishT,AK,scannedT,takeT,refuseT]
  (repeat' split)<;>simp [BW]
 ·simp only [AN,s21,failT,againT,nextSeqT,nextMailT,CE,BB,ownedT,finishT,AK,scannedT,takeT,refuseT]
  (repeat' split)<;>simp [BW]
 ·simp only [AN,s22,failT,againT,nextSeqT,nextMailT,CE,BB,ownedT,finishT,AK,scannedT,takeT,refuseT]
  (repeat' split)<;>simp [BW]
 ·simp only [AN,s23,failT,againT,nextSeqT,nextMailT,CE,BB,ownedT,finishT,AK,scannedT,takeT,refuseT]
  (repeat' split)<;>simp [BW]
 ·simp only [AN,s24,failT,againT,nextSeqT,nextMailT,CE,BB,ownedT,finishT,AK,scannedT,takeT,refuseT]
  (repeat' split)<;>simp [BW]
 ·simp only [AN,s25,failT,againT,nextSeqT,nextMailT,CE,BB,ownedT,finishT,AK,scannedT,takeT,refuseT]
  (repeat' split)<;>simp [BW,hk1]
 ·simp only [AN,s26,failT,againT,nextSeqT,nextMailT,CE,BB,ownedT,finishT,AK,scannedT,takeT,refuseT]
  (repeat' split)<;>simp [BW]
 ·simp only [AN,s27,failT,againT,nextSeqT,nextMailT,CE,BB,ownedT,finishT,AK,scannedT,takeT,refuseT]
  (repeat' split)<;>simp [BW,hk1]
 ·simp only [AN,s28,failT,againT,nextSeqT,nextMailT,CE,BB,ownedT,finishT,AK,scannedT,takeT,refuseT]
  (repeat' split)<;>simp [BW]
 ·simp only [AN,s29,failT,againT,nextSeqT,nextMailT,CE,BB,ownedT,finishT,AK,scannedT,takeT,refuseT]
  (repeat' split)<;>simp [BW]
 ·simp only [AN,s30,failT,againT,nextSeqT,nextMailT,CE,BB,ownedT,finishT,AK,scannedT,takeT,refuseT]
  (repeat' split)<;>simp [BW]
 ·simp only [AN,s31,failT,againT,nextSeqT,nextMailT,CE,BB,ownedT,finishT,AK,scannedT,takeT,refuseT]
  (repeat' split)<;>simp [BW]
 ·simp only [AN,s32,failT,againT,nextSeqT,nextMailT,CE,BB,ownedT,finishT,AK,scannedT,takeT,refuseT]
  (repeat' split)<;>simp [BW]
 ·simp only [AN,s33,failT,againT,nextSeqT,nextMailT,CE,BB,ownedT,finishT,AK,scannedT,takeT,refuseT]
  (repeat' split)<;>simp [BW]
 ·simp only [AN,s34,failT,againT,nextSeqT,nextMailT,CE,BB,ownedT,finishT,AK,scannedT,takeT,refuseT]
  (repeat' split)<;>simp [BW]
 ·simp only [AN,s35,failT,againT,nextSeqT,nextMailT,CE,BB,ownedT,finishT,AK,scannedT,takeT,refuseT]
  (repeat' split)<;>simp [BW]
 ·simp only [AN,s36,failT,againT,nextSeqT,nextMailT,CE,BB,ownedT,finishT,AK,scannedT,takeT,refuseT]
  (repeat' split)<;>simp [BW]
 ·simp only [AN,s37,failT,againT,nextSeqT,nextMailT,CE,BB,ownedT,finishT,AK,scannedT,takeT,refuseT]
  (repeat' split)<;>simp [BW]
 ·simp only [AN,s38,failT,againT,nextSeqT,nextMailT,CE,BB,ownedT,finishT,AK,scannedT,takeT,refuseT]
  (repeat' split)<;>simp [BW]
def Rdg (x:AC):Prop:=(4≤x.pc∧x.pc≤15)∨(33≤x.pc∧x.pc≤36)
def Vdg (x:AC):Prop:=(6≤x.pc∧x.pc≤15)∨x.pc=35∨x.pc=36
theorem TG (h:AQ c x) (h0:x.pc≠0) {k:Nat} (hk:x.pc=(k:Int)):(stepT c t x m).x.pc∈BW k:=by
 have:=AoF (t:=t) (m:=m) h h0
 rwa [hk,gE] at this
theorem AxD (h:x.pc=5) (h6:(stepT c t x m).x.pc=6):ld m 0=wdF x.base:=by
 rw [AE (k:=5) h] at h6
 by_cases e:ld m 0=wdF x.base
 ·exact e
 ·exfalso
  have e2:(AN 5 c t x m).x=failT c x:=by show (s5 c t x m).x=_;unfold s5;rw [fT e]
  rw [e2] at h6
  obtain ⟨p,e3,hp⟩:=HP c x
  rw [e3] at h6
  dsimp only at h6
  omega
theorem ArJ (h:x.pc=34) (h6:(stepT c t x m).x.pc=35):ld m 0=wdF x.base:=by
 rw [AE (k:=34) h] at h6
 by_cases e:ld m 0=wdF x.base
 ·exact e
 ·exfalso
  have e2:(AN 34 c t x m).x.pc=37:=by show (s34 c t x m).x.pc=_;unfold s34;dsimp only;rw [fT e]
  omega
theorem ArL (h:x.pc=3∨x.pc=32):(stepT c t x m).x.base=rdF (ld m 0)∧(stepT c t x m).x.epoch=x.epoch:=by
 rcases h with h|h
 ·rw [AE (k:=3) h];exact ⟨rfl,rfl⟩
 ·rw [AE (k:=32) h];exact ⟨rfl,rfl⟩
theorem ZD (h:AQ c x) (h0:x.pc≠0) (hv:Rdg (stepT c t x m).x):(Rdg x∧(stepT c t x m).x.base=x.base∧(stepT c t x m).x.epoch=x.epoch)∨((x.pc=3∨x.pc=32)∧(stepT c t x m).x.base=rdF (ld m 0)∧(stepT c t x m).x.epoch=x.epoch):=by
 by_cases h3:x.pc=3∨x.pc=32
 ·exact .inr ⟨h3,ArL h3⟩
 ·have key:Rdg x∧x.pc≠22∧x.pc≠23∧x.pc≠28∧x.pc≠29∧x.pc≠1∧x.pc≠30:=by
   obtain ⟨k,hk1,hk2, -⟩:=BA h
   have hp:=TG (t:=t) (m:=m) h h0 hk1
   unfold Rdg at *
   generalize (stepT c t x m).x.pc=p at *
   have hz:=AS hk2
   repeat' (rcases hz with rfl|hz)
   all_goals (simp only [BW,iH,lO,or_false] at hp<;>omega)
  exact .inl ⟨key.1,KN h (by omega) (by omega) (by omega) (by omega) (by omega) (by omega),GK h (by omega) (by omega) (by omega) (by omega) (by omega) (by omega)⟩
theorem w6_ (h:AQ c x) (h0:x.pc≠0) (hv:Vdg (stepT c t x m).x):(Vdg x∨((x.pc=5∨x.pc=34)∧ld m 0=wdF x.base))∧Rdg x∧(stepT c t x m).x.base=x.base∧(stepT c t x m).x.epoch=x.epoch:=by
 have key:(Vdg x∨(x.pc=5∧(stepT c t x m).x.pc=6)∨(x.pc=34∧(stepT c t x m).x.pc=35))∧Rdg x∧x.pc≠3∧x.pc≠32∧x.pc≠22∧x.pc≠23∧x.pc≠28∧x.pc≠29∧x.pc≠1∧x.pc≠30:=by
  obtain ⟨k,hk1,hk2, -⟩:=BA h
  have hp:=TG (t:=t) (m:=m) h h0 hk1
  unfold Vdg Rdg at *
  generalize (stepT c t x m).x.pc=p at *
  have hz:=AS hk2
  repeat' (rcases hz with rfl|hz)
  all_goals (simp only [BW,iH,lO,or_false] at hp<;>omega)
 refine ⟨?_,key.2.1,KN h (by omega) (by omega) (by omega) (by omega) (by omega) (by omega),GK h (by omega) (by omega) (by omega) (by omega) (by omega) (by omega)⟩
 rcases key.1 with h1|⟨h1,h2⟩|⟨h1,h2⟩
 ·exact .inl h1
 ·exact .inr ⟨.inl h1,AxD h1 h2⟩
 ·exact .inr ⟨.inr h1,ArJ h1 h2⟩
theorem YN (h:AQ c x) {o:CD} (ho:o∈(stepT c t x m).x.pool.old):o∈x.pool.old∨(x.pc=21∧o=⟨x.base,ld m 1⟩):=by
 by_cases h2:x.pc=2
 ·rw [TN h2] at ho;exact .inl ho
 ·by_cases h15:x.pc=15
  ·by_cases hr:ld m 0=wdF x.base
   ·rw [JZ h15 hr] at ho;exact .inl ho
   ·rw [HY h15 hr] at ho;exact .inl ho
  ·by_cases hl:x.pc=24∨x.pc=26∨x.pc=27
   ·have hk:o∈(DP c t x m).old:=by
     rcases HZ (t:=t) (m:=m) (c:=c) hl with e|e
     ·rw [e] at ho;exact ho
     ·rw [e] at ho;exact ho
    left
    unfold DP at hk
    repeat' split at hk
    all_goals first|exact (HW.1 hk).1|exact hk
   ·by_cases h21:x.pc=21
    ·rw [KL h21] at ho
     have:o∈x.pool.old++[⟨x.base,ld m 1⟩]:=ho
     rcases gQ.1 this with h|h
     ·exact .inl h
     ·exact .inr ⟨h21,by simpa using h⟩
    ·rw [ER h h2 h15 h21 (by omega) (by omega) (by omega)] at ho;exact .inl ho
def ZO (c:AB) (x:AC) (m:Mm) (o:CD):Prop :=
 (x.pc=24∧prE (ld m 1) o=true)∨(x.pc=26∧ld m 1=x.word∧prE (x.word+1) o=true)∨(x.pc=27∧x.i+1=c.threads∧prS (x.seen++[ld m (aHaz c x.i)]) o=true)
theorem AhB (h:AQ c x) {o:CD} (ho:o∈x.pool.old):o∈(stepT c t x m).x.pool.old∨ZO c x m o:=by
 by_cases h2:x.pc=2
 ·rw [TN h2];exact .inl ho
 ·by_cases h15:x.pc=15
  ·by_cases hr:ld m 0=wdF x.base
   ·rw [JZ h15 hr];exact .inl ho
   ·rw [HY h15 hr];exact .inl ho
  ·by_cases hl:x.pc=24∨x.pc=26∨x.pc=27
   ·have hk:o∈(DP c t x m).old∨ZO c x m o:=by
     unfold DP ZO
     split
     ·rename_i g
      cases e:prE (ld m 1) o
      ·exact .inl (HW.2 ⟨ho,e⟩)
      ·exact .inr (.inl ⟨g,rfl⟩)
     ·split
      ·rename_i g
       split
       ·rename_i g2
        cases e:prE (x.word+1) o
        ·exact .inl (HW.2 ⟨ho,e⟩)
        ·exact .inr (.inr (.inl ⟨g,g2,rfl⟩))
       ·exact .inl ho
      ·split
       ·rename_i g
        cases e:prS (x.seen++[ld m (aHaz c x.i)]) o
        ·exact .inl (HW.2 ⟨ho,e⟩)
        ·exact .inr (.inr (.inr ⟨g.1,g.2,rfl⟩))
       ·exact .inl ho
    rcases hk with hk|hk
    ·left
     rcases HZ (t:=t) (m:=m) (c:=c) hl with e|e
     ·rw [e];exact hk
     ·rw [e];exact hk
    ·exact .inr hk
   ·by_cases h21:x.pc=21
    ·rw [KL h21]
     exact .inl (iZ _ ho)
    ·rw [ER h h2 h15 h21 (by omega) (by omega) (by omega)];exact .inl ho
end Go.Proofs.YtccefppppedgkaaGreat
namespace Go.Proofs.YtccefppppedgkaaGreat
variable {c:AB} {t:Nat} {x:AC} {m:Mm}
theorem GQ (h:AQ c x) (h0:x.pc≠0) {P:Prop} (hP : ∀k:Nat,x.pc=(k:Int)→k≤38→(stepT c t x m).x.pc∈BW k→P):P:=by
 obtain ⟨k,hk1,hk2, -⟩:=BA h
 exact hP k hk1 hk2 (TG h h0 hk1)
theorem AqH (h:AQ c x) (h0:x.pc≠0) (hv:(stepT c t x m).x.pc=25):x.pc=24∨x.pc=25:=by
 refine GQ (t:=t) (m:=m) h h0 fun k hk1 hk2 hp=>?_
 rw [hv] at hp
 have hz:=AS hk2
 repeat' (rcases hz with rfl|hz)
 all_goals first|omega|(simp [BW] at hp;done)
theorem AqI (h:AQ c x) (h0:x.pc≠0) (hv:(stepT c t x m).x.pc=26):x.pc=25:=by
 refine GQ (t:=t) (m:=m) h h0 fun k hk1 hk2 hp=>?_
 rw [hv] at hp
 have hz:=AS hk2
 repeat' (rcases hz with rfl|hz)
 all_goals first|omega|(simp [BW] at hp;done)
theorem BbC (h:AQ c x) (h0:x.pc≠0) (hv:(stepT c t x m).x.pc=27):x.pc=25∨x.pc=26∨x.pc=27:=by
 refine GQ (t:=t) (m:=m) h h0 fun k hk1 hk2 hp=>?_
 rw [hv] at hp
 have hz:=AS hk2
 repeat' (rcases hz with rfl|hz)
 all_goals first|omega|(simp [BW] at hp;done)
def AlX (c:AB) (t:Nat) (x:AC) (m:Mm):Bool:=x.all_&&(decide (x.i=(t:Int))||letsW (ld m (aEpo c x.i)) x.word)
theorem v8_ (h:x.pc=24) (hv:(stepT c t x m).x.pc=25):(stepT c t x m).x.word=ld m 1∧(stepT c t x m).x.i=0:=by
 rw [AE (k:=24) h] at hv ⊢
 have e:(AN 24 c t x m).x=(s24 c t x m).x:=rfl
 rw [e] at hv ⊢
 unfold s24 at hv ⊢
 dsimp only at hv ⊢
 split at hv
 ·rename_i g;rw [fR g];exact ⟨rfl,rfl⟩
 ·exfalso
  rcases EQ c { x with word:=ld m 1,pool:=backP x.pool (prE (ld m 1)),i:=0,all_:=true,pc:=25 } with ⟨_,e⟩|⟨_,e⟩
  ·rw [e] at hv
   obtain ⟨p,sc,r,e2,hp⟩:=IE c { x with word:=ld m 1,pool:=backP x.pool (prE (ld m 1)),i:=0,all_:=true,pc:=25 }
   rw [e2] at hv
   dsimp only at hv
   omega
  ·rw [e] at hv
   dsimp only at hv
   omega
theorem NG (h:x.pc=25):(stepT c t x m).x.word=x.word ∧
  ((stepT c t x m).x.pc=25→(stepT c t x m).x.i=x.i+1∧(stepT c t x m).x.all_=AlX c t x m) ∧
  ((stepT c t x m).x.pc=26 → ¬x.i+1<c.threads∧AlX c t x m=true) ∧
  ((stepT c t x m).x.pc=27→(stepT c t x m).x.i=0∧(stepT c t x m).x.seen=[]):=by
 rw [AE (k:=25) h]
 have e:(AN 25 c t x m).x=(s25 c t x m).x:=rfl
 rw [e]
 unfold s25
 dsimp only
 by_cases g:x.i+1<c.threads
 ·rw [fR g]
  dsimp only
  refine ⟨rfl,fun _=>⟨rfl,rfl⟩,fun e=>by omega,fun e=>by omega⟩
 ·rw [fT g]
  dsimp only
  refine ⟨rfl,fun e=>?_,fun e=>⟨g,?_⟩,fun _=>⟨rfl,rfl⟩⟩
  ·split at e<;>omega
  ·split at e
   ·rename_i g2;exact g2
   ·omega
theorem AnW (hl:AQ c x) (h:x.pc=26) (hv:(stepT c t x m).x.pc=27):(stepT c t x m).x.i=0∧(stepT c t x m).x.seen=[]:=by
 have ha:=hl.at_
 rw [h] at ha
 obtain ⟨-,h1,h2⟩:=ha
 rw [AE (k:=26) h] at hv ⊢
 have key : ∀p:BV,(if needsP p c.retire=true then { x with pc:=27,pool:=p } else scannedT c { x with pc:=27,pool:=p }:AC).pc=27→(if needsP p c.retire=true then { x with pc:=27,pool:=p } else scannedT c { x with pc:=27,pool:=p }:AC).i=0∧(if needsP p c.retire=true then { x with pc:=27,pool:=p } else scannedT c { x with pc:=27,pool:=p }:AC).seen=[]:=fun p hp=>by
  split at hp
  ·rename_i g;rw [fR g];exact ⟨h1,iA h2⟩
  ·exfalso
   rcases EQ c { x with pc:=27,pool:=p } with ⟨_,e⟩|⟨_,e⟩
   ·rw [e] at hp
    obtain ⟨q,sc,r,e2,hq⟩:=IE c { x with pc:=27,pool:=p }
    rw [e2] at hp
    dsimp only at hp
    omega
   ·rw [e] at hp
    dsimp only at hp
    omega
 exact key _ hv
theorem AnX (h:x.pc=27) (hv:(stepT c t x m).x.pc=27):x.i+1≠c.threads∧(stepT c t x m).x.i=x.i+1∧(stepT c t x m).x.seen=x.seen++[ld m (aHaz c x.i)]:=by
 rw [AE (k:=27) h] at hv ⊢
 have e:(AN 27 c t x m).x=(s27 c t x m).x:=rfl
 rw [e] at hv ⊢
 unfold s27 at hv ⊢
 dsimp only at hv ⊢
 split at hv
 ·exfalso
  rcases EQ c { x with seen:=x.seen++[ld m (aHaz c x.i)],i:=x.i+1,pool:=backP x.pool (prS (x.seen++[ld m (aHaz c x.i)]))} with ⟨_,e⟩|⟨_,e⟩
  ·rw [e] at hv
   obtain ⟨q,sc,r,e2,hq⟩:=IE c { x with seen:=x.seen++[ld m (aHaz c x.i)],i:=x.i+1,pool:=backP x.pool (prS (x.seen++[ld m (aHaz c x.i)]))}
   rw [e2] at hv
   dsimp only at hv
   omega
  ·rw [e] at hv
   dsimp only at hv
   omega
 ·rename_i g;rw [fT g];exact ⟨g,rfl,rfl⟩
theorem AxG (h:x.pc=6) (hv:(stepT c t x m).x.pc=7):(stepT c t x m).x.buf=[]:=by
 rw [AE (k:=6) h] at hv ⊢
 have e:(AN 6 c t x m).x=(s6 c t x m).x:=rfl
 rw [e] at hv ⊢
 unfold s6 at hv ⊢
 dsimp only at hv ⊢
 split at hv
 ·rename_i g;rw [fR g]
 ·exfalso
  obtain ⟨p,e2,hp⟩:=HP c x
  rw [e2] at hv
  dsimp only at hv
  omega
theorem AdJ (h:x.pc=7):(stepT c t x m).x.buf=x.buf++[ld m (aNode c x.base.index+1+x.i)]:=by
 rw [AE (k:=7) h]
 show (BB c t x _).buf=_
 unfold BB
 dsimp only
 split
 ·rfl
 ·split<;>rfl
theorem NM (h:AQ c x) (h6:x.pc≠6) (h7:x.pc≠7) (h22:x.pc≠22) (h23:x.pc≠23) (h28:x.pc≠28) (h29:x.pc≠29):(stepT c t x m).x.buf=x.buf:=by
 obtain ⟨k,hk1,hk2, -⟩:=BA h
 rw [AE hk1]
 have hz:=AS hk2
 repeat' (rcases hz with rfl|hz)
 all_goals first|(exfalso;omega)|rfl|(simp only [AN,s1,s2,s3,s4,s5,s8,s9,s10,s11,s12,s13,s14,s15,s16,s17,s18,s19,s20,s21,s24,s25,s26,s27,s30,s31,s32,s33,s34,s35,s36,s37,s38,failT,againT,nextSeqT,nextMailT,CE,scannedT,takeT,refuseT];(repeat' split)<;>rfl)
theorem AkI (h:AQ c x) (h0:x.pc≠0):(stepT c t x m).x.buf=x.buf∨(stepT c t x m).x.buf=[]∨(x.pc=7∧(stepT c t x m).x.buf=x.buf++[ld m (aNode c x.base.index+1+x.i)]):=by
 by_cases h7:x.pc=7
 ·exact .inr (.inr ⟨h7,AdJ h7⟩)
 ·by_cases hs:x.pc=6∨x.pc=22∨x.pc=23∨x.pc=28∨x.pc=29
  ·rcases hs with h2|h2|h2|h2|h2
   ·rw [AE (k:=6) h2];simp only [AN,s6,failT,againT];repeat' split
    all_goals first|exact .inl rfl|exact .inr (.inl rfl)
   ·rw [AE (k:=22) h2];simp only [AN,s22,ownedT,finishT,AK];repeat' split
    all_goals first|exact .inl rfl|exact .inr (.inl rfl)
   ·rw [AE (k:=23) h2];simp only [AN,s23,ownedT,finishT,AK];repeat' split
    all_goals first|exact .inl rfl|exact .inr (.inl rfl)
   ·rw [AE (k:=28) h2];simp only [AN,s28,finishT,AK];repeat' split
    all_goals first|exact .inl rfl|exact .inr (.inl rfl)
   ·rw [AE (k:=29) h2];simp only [AN,s29,finishT,AK];repeat' split
    all_goals first|exact .inl rfl|exact .inr (.inl rfl)
  ·exact .inl (NM h (by omega) h7 (by omega) (by omega) (by omega) (by omega))
theorem AtM (h:x.pc=11∨x.pc=12) (hv:(stepT c t x m).x.pc=13):(stepT c t x m).x.nxt=allO c x.buf (stepT c t x m).x.found∧(stepT c t x m).x.found=HG t x:=by
 have key : ∀y:AC,y.buf=x.buf→HG t y=HG t x→(nextMailT c t y).pc=13→(nextMailT c t y).nxt=allO c x.buf (nextMailT c t y).found∧(nextMailT c t y).found=HG t x:=fun y e1 e2 hp=>by
  unfold nextMailT at hp ⊢
  split at hp
  ·cases hp
  ·rename_i g
   rw [fT g]
   dsimp only
   rw [e1,e2]
   exact ⟨rfl,rfl⟩
 rcases h with h|h
 ·rw [AE (k:=11) h] at hv ⊢
  have e:(AN 11 c t x m).x=(s11 c t x m).x:=rfl
  rw [e] at hv ⊢
  unfold s11 at hv ⊢
  dsimp only at hv ⊢
  split at hv
  ·cases hv
  ·rename_i g;rw [fT g];exact key { x with word:=ld m (aMail c x.i)} rfl rfl hv
 ·rw [AE (k:=12) h] at hv ⊢
  have e:(AN 12 c t x m).x=(s12 c t x m).x:=rfl
  rw [e] at hv ⊢
  unfold s12 at hv ⊢
  dsimp only at hv ⊢
  split at hv
  ·rename_i g;rw [fR g];exact key { x with tri:=x.tri+1 } rfl rfl hv
  ·cases hv
end Go.Proofs.YtccefppppedgkaaGreat
namespace Go.Proofs.YtccefppppedgkaaGreat
variable {c:AB} {x:AC}
theorem AQ.own_at (h:AQ c x) (h1:3≤x.pc) (h2:x.pc≤19):x.pool.own.tag≠0:=by
 obtain ⟨k,hk1,hk2,ha⟩:=BA h
 have hz:=AS hk2
 repeat' (rcases hz with rfl|hz)
 all_goals first|(exfalso;omega)|exact ha.2|exact ha.1.2
theorem AQ.i12 (h:AQ c x) (hp:x.pc=12):0≤x.i∧x.i<c.threads:=by
 have ha:=h.at_
 rw [hp] at ha
 exact ha.2.1
theorem AQ.i14 (h:AQ c x) (hp:x.pc=14):0≤x.i∧x.i<sizeC c∧(x.nxt.length:Int)=sizeC c:=by
 have ha:=h.at_
 rw [hp] at ha
 exact ⟨ha.2.2.2.1,ha.2.2.2.2,ha.2.2.1⟩
theorem AQ.j17 (h:AQ c x) (hp:x.pc=17):0≤x.j∧x.j<5:=by
 have ha:=h.at_
 rw [hp] at ha
 exact ⟨ha.2.1,ha.2.2.1⟩
def ApP (c:AB) (x:AC):Prop:=x.pool.own.tag≠0→0≤x.pool.own.index∧x.pool.own.index<nodesL c
variable {t:Nat}
theorem IG {a:Int} (f:Okc c) (h:AQ c x) (ht:(t:Int)<c.threads) (ho:ApP c x) (w:AA c t x a):0≤a∧a<totL c:=by
 have hf:=f.facts
 obtain ⟨e,hn⟩:=f.tot
 have hz:1*(1+sizeC c)≤nodesL c*(1+sizeC c):=iD hn (by omega)
 cases w with
 |root hp=>omega
 |glob hp=>omega
 |phase hp=>omega
 |epo hp=>unfold aEpo;omega
 |haz hp=>unfold aHaz;omega
 |arg hp=>have:=h.j17 hp;unfold EI;omega
 |seq hp=>unfold aSeq;omega
 |mail hp=>have:=h.i12 hp;unfold aMail;omega
 |mine hp=>unfold aMail;omega
 |tag hp =>
  have:=ho (h.own_at (by omega) (by omega))
  have:=CI f this.1 this.2 (gL 0) (by omega)
  omega
 |recd hp =>
  have hi:=h.i14 hp
  have:=ho (h.own_at (by omega) (by omega))
  have:=CI f this.1 this.2 (k:=1+x.i) (by omega) (by omega)
  omega
variable {m:Mm}
theorem WA.aa {a v:Int} (w:WA c t x m a v):AA c t x a:=by
 cases w with
 |root hp=>exact .root hp
 |glob hp=>exact .glob hp
 |phase hp=>exact .phase hp
 |epo hp=>exact .epo (by omega)
 |epo0 hp=>exact .epo (by omega)
 |haz hp=>exact .haz (by omega)
 |haz0 hp=>exact .haz (by omega)
 |arg hp=>exact .arg hp
 |seq hp=>exact .seq hp
 |mail hp=>exact .mail hp
 |mine hp=>exact .mine hp
 |tag hp=>exact .tag hp
 |recd hp=>exact .recd hp
structure Ctx (c:AB) (t:Nat) (x:AC) (m:Mm):Prop where
 f:Okc c
 h:AQ c x
 h0:x.pc≠0
 ht:(t:Int)<c.threads
 ho:ApP c x
 wl:(m.w.length:Int)=totL c
theorem Ctx.keep (k:Ctx c t x m) {b:Int} (hb:0≤b) (hn : ∀a,AA c t x a→a≠b):ld (stepT c t x m).m b=ld m b:=by
 rcases ZE (t:=t) (m:=m) k.h with e|⟨a,v,w,e⟩
 ·exact YA e b
 ·have hr:=IG k.f k.h k.ht k.ho w.aa
  rw [HD e hr.1 (by have:=k.wl;omega) hb,fT (hn a w.aa)]
theorem Ctx.wl' (k:Ctx c t x m):((stepT c t x m).m.w.length:Int)=totL c:=by
 rcases ZE (t:=t) (m:=m) k.h with e|⟨a,v,w,e⟩
 ·rw [e];exact k.wl
 ·rw [e,iS];exact k.wl
theorem Ctx.root {c:AB} {t:Nat} {x:AC} {m:Mm} (k:Ctx c t x m) (hr : ¬(x.pc=15∧ld m 0=wdF x.base)):ld (stepT c t x m).m 0=ld m 0:=by
 rcases ZE (t:=t) (m:=m) k.h with e|⟨a,v,w,e⟩
 ·exact YA e 0
 ·have hg:=IG k.f k.h k.ht k.ho w.aa
  rw [HD e hg.1 (by have:=k.wl;omega) (gL 0),fT]
  have hf:=k.f.facts
  have h14:=fun hp=>(k.h.i14 hp)
  have hown:3≤x.pc→x.pc≤19→3+c.threads*9≤aNode c x.pool.own.index:=fun a b=>by
   have:=k.ho (k.h.own_at a b)
   have:=CI k.f this.1 this.2 (gL 0) (by omega)
   omega
  have h12:=fun hp=>(k.h.i12 hp)
  have h17:=fun hp=>(k.h.j17 hp)
  cases w with
  |root hp g=>exact absurd ⟨hp,g⟩ hr
  |glob hp=>omega
  |phase hp=>omega
  |epo hp=>unfold aEpo;omega
  |epo0 hp=>unfold aEpo;omega
  |haz hp=>unfold aHaz;omega
  |haz0 hp=>unfold aHaz;omega
  |arg hp=>have:=h17 hp;unfold EI;omega
  |seq hp=>unfold aSeq;omega
  |mail hp=>have:=h12 hp;unfold aMail;omega
  |mine hp=>unfold aMail;omega
  |tag hp=>have:=hown (by omega) (by omega);omega
  |recd hp=>have:=hown (by omega) (by omega);have:=h14 hp;omega
theorem Ctx.won (k:Ctx c t x m) (h15:x.pc=15) (hr:ld m 0=wdF x.base):ld (stepT c t x m).m 0=wdF x.pool.own:=by
 have e:(stepT c t x m).m.w=m.w.set (0:Int).toNat (wdF x.pool.own):=by
  rw [AE (k:=15) h15]
  show (s15 c t x m).m.w=_
  unfold s15
  rw [fR hr]
  show (swM _ _ _ _ _).w=_
  rw [QG,fR hr]
 have hz:=IG k.f k.h k.ht k.ho (.root h15)
 rw [HD e (gL 0) (by have:=k.wl;omega) (gL 0),fR rfl]
theorem Ctx.glob {c:AB} {t:Nat} {x:AC} {m:Mm} (k:Ctx c t x m):ld (stepT c t x m).m 1=ld m 1∨(x.pc=26∧ld m 1=x.word∧ld (stepT c t x m).m 1=x.word+1):=by
 rcases ZE (t:=t) (m:=m) k.h with e|⟨a,v,w,e⟩
 ·exact .inl (YA e 1)
 ·have hg:=IG k.f k.h k.ht k.ho w.aa
  rw [HD e hg.1 (by have:=k.wl;omega) (by decide)]
  have hf:=k.f.facts
  have hown:3≤x.pc→x.pc≤19→3+c.threads*9≤aNode c x.pool.own.index:=fun a b=>by
   have:=k.ho (k.h.own_at a b)
   have:=CI k.f this.1 this.2 (gL 0) (by omega)
   omega
  have h14:=fun hp=>(k.h.i14 hp)
  have h12:=fun hp=>(k.h.i12 hp)
  have h17:=fun hp=>(k.h.j17 hp)
  cases w with
  |glob hp g=>exact .inr ⟨hp,g,by rw [fR rfl]⟩
  |root hp=>left;rw [fT (by omega)]
  |phase hp=>left;rw [fT (by omega)]
  |epo hp=>left;rw [fT bZ]
  |epo0 hp=>left;rw [fT bZ]
  |haz hp=>left;rw [fT bY]
  |haz0 hp=>left;rw [fT bY]
  |arg hp=>left;rw [fT (by have:=h17 hp;unfold EI;omega)]
  |seq hp=>left;rw [fT eI]
  |mail hp=>left;rw [fT (by have:=h12 hp;unfold aMail;omega)]
  |mine hp=>left;rw [fT bO]
  |tag hp=>left;rw [fT (by have:=hown (by omega) (by omega);omega)]
  |recd hp=>left;rw [fT (by have:=hown (by omega) (by omega);have:=h14 hp;omega)]
theorem Ctx.epo {c:AB} {t:Nat} {x:AC} {m:Mm} (k:Ctx c t x m) {u:Nat} (hu:(u:Int)<c.threads) (hn:u≠t∨(x.pc≠2∧x.pc≠31∧x.pc≠28∧x.pc≠38)):ld (stepT c t x m).m (aEpo c u)=ld m (aEpo c u):=by
 have hf:=k.f.facts
 refine k.keep bZ fun a w=>?_
 have hown:3≤x.pc→x.pc≤19→3+c.threads*9≤aNode c x.pool.own.index:=fun a b=>by
  have:=k.ho (k.h.own_at a b)
  have:=CI k.f this.1 this.2 (gL 0) (by omega)
  omega
 have ht:=k.ht
 have h14:=fun hp=>(k.h.i14 hp)
 have h12:=fun hp=>(k.h.i12 hp)
 have h17:=fun hp=>(k.h.j17 hp)
 unfold aEpo
 cases w with
 |root hp=>omega
 |glob hp=>omega
 |phase hp=>omega
 |epo hp=>unfold aEpo;omega
 |haz hp=>unfold aHaz;omega
 |arg hp=>have:=h17 hp;unfold EI;omega
 |seq hp=>unfold aSeq;omega
 |mail hp=>have:=h12 hp;unfold aMail;omega
 |mine hp=>unfold aMail;omega
 |tag hp=>have:=hown (by omega) (by omega);omega
 |recd hp=>have:=hown (by omega) (by omega);have:=h14 hp;omega
theorem Ctx.haz {c:AB} {t:Nat} {x:AC} {m:Mm} (k:Ctx c t x m) {u:Nat} (hu:(u:Int)<c.threads) (hn:u≠t∨(x.pc≠4∧x.pc≠33∧x.pc≠20∧x.pc≠37)):ld (stepT c t x m).m (aHaz c u)=ld m (aHaz c u):=by
 have hf:=k.f.facts
 refine k.keep bY fun a w=>?_
 have hown:3≤x.pc→x.pc≤19→3+c.threads*9≤aNode c x.pool.own.index:=fun a b=>by
  have:=k.ho (k.h.own_at a b)
  have:=CI k.f this.1 this.2 (gL 0) (by omega)
  omega
 have ht:=k.ht
 have h14:=fun hp=>(k.h.i14 hp)
 have h12:=fun hp=>(k.h.i12 hp)
 have h17:=fun hp=>(k.h.j17 hp)
 unfold aHaz
 cases w with
 |root hp=>omega
 |glob hp=>omega
 |phase hp=>omega
 |epo hp=>unfold aEpo;omega
 |haz hp=>unfold aHaz;omega
 |arg hp=>have:=h17 hp;unfold EI;omega
 |seq hp=>unfold aSeq;omega
 |mail hp=>have:=h12 hp;unfold aMail;omega
 |mine hp=>unfold aMail;omega
 |tag hp=>have:=hown (by omega) (by omega);omega
 |recd hp=>have:=hown (by omega) (by omega);have:=h14 hp;omega
theorem Ctx.epo_set (k:Ctx c t x m) (h:x.pc=2∨x.pc=31):ld (stepT c t x m).m (aEpo c t)=GM x.epoch:=by
 have hr:=IG k.f k.h k.ht k.ho (.epo (by omega):AA c t x (aEpo c t))
 have e:(stepT c t x m).m.w=m.w.set (aEpo c t).toNat (GM x.epoch):=by
  rcases h with h|h
  ·rw [AE (k:=2) h];rfl
  ·rw [AE (k:=31) h];rfl
 rw [HD e hr.1 (by have:=k.wl;omega) hr.1,fR rfl]
theorem Ctx.haz_set (k:Ctx c t x m) (h:x.pc=4∨x.pc=33):ld (stepT c t x m).m (aHaz c t)=wdF x.base:=by
 have hr:=IG k.f k.h k.ht k.ho (.haz (by omega):AA c t x (aHaz c t))
 have e:(stepT c t x m).m.w=m.w.set (aHaz c t).toNat (wdF x.base):=by
  rcases h with h|h
  ·rw [AE (k:=4) h];rfl
  ·rw [AE (k:=33) h];rfl
 rw [HD e hr.1 (by have:=k.wl;omega) hr.1,fR rfl]
theorem Ctx.node (k:Ctx c t x m) {i q:Int} (i0:0≤i) (i1:i<nodesL c) (q0:0≤q) (q1:q≤sizeC c) (hn:(x.pc≠13∧x.pc≠14)∨i≠x.pool.own.index):ld (stepT c t x m).m (aNode c i+q)=ld m (aNode c i+q):=by
 have hf:=k.f.facts
 have hin:=CI k.f i0 i1 q0 q1
 refine k.keep (by omega) fun a w=>?_
 have ht:=k.ht
 have h12:=fun hp=>(k.h.i12 hp)
 have h17:=fun hp=>(k.h.j17 hp)
 cases w with
 |root hp=>omega
 |glob hp=>omega
 |phase hp=>omega
 |epo hp=>unfold aEpo;omega
 |haz hp=>unfold aHaz;omega
 |arg hp=>have:=h17 hp;unfold EI;omega
 |seq hp=>unfold aSeq;omega
 |mail hp=>have:=h12 hp;unfold aMail;omega
 |mine hp=>unfold aMail;omega
 |tag hp =>
  have ho:=k.ho (k.h.own_at (by omega) (by omega))
  have hne:i≠x.pool.own.index:=by rcases hn with h|h;omega;exact h
  have:=t3_ k.f ho.1 i0 (Ne.symm hne) (gL 0) (by omega) q0 q1
  omega
 |recd hp =>
  have ho:=k.ho (k.h.own_at (by omega) (by omega))
  have hi:=k.h.i14 hp
  have hne:i≠x.pool.own.index:=by rcases hn with h|h;omega;exact h
  have:=t3_ k.f ho.1 i0 (Ne.symm hne) (k:=1+x.i) (by omega) (by omega) q0 q1
  omega
end Go.Proofs.YtccefppppedgkaaGreat
