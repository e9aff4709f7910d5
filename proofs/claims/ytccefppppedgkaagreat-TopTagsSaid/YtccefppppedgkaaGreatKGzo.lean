/- Joined: XTWhat, XTopX, XTopZ, XTopLn, XTopNt, XTopTg. -/
import Derived.Test.YtccefppppedgkaaGreatKGz
import Derived.Test.YtccefppppedgkaaGreatKGzl
set_option linter.unusedVariables false
set_option linter.unusedSimpArgs false
set_option linter.unnecessarySimpa false
set_option maxRecDepth 100000
set_option maxHeartbeats 64000000
namespace Go.Proofs.YtccefppppedgkaaGreat
open Go.RowKit
section
attribute [local irreducible] AL AW RG Fin C Cd Cio AI AF AN
end
end Go.Proofs.YtccefppppedgkaaGreat
namespace Go.Proofs.YtccefppppedgkaaGreat
def Bg (c:AB) (l l1:List AC):Prop:=l1=l ∨ ∃(t:Nat) (q:AT),t<thrN c∧(l.getD t AK).pc=0∧BR q=true∧(l.getD t AK).seq<c.seqs∧l1=l.set t (begun (l.getD t AK) q)
def Sp1 (c:AB) (m:Mm) (l1:List AC) (u:List DA) (m':Mm) (l':List AC) (u':List DA):Prop :=
 (m'=m∧l'=l1∧u'=u) ∨ ∃(t:Nat) (z:Int),t<thrN c∧(l1.getD t AK).pc≠0∧m'=(stepT c t (l1.getD t AK) m).m∧l'=l1.set t (stepT c t (l1.getD t AK) m).x∧u'=if (stepT c t (l1.getD t AK) m).won then u++[⟨z,t,(stepT c t (l1.getD t AK) m).ops⟩] else u
theorem AuT (c:AB) (s:Mc) (e:EG) : ∃l1,Bg c s.tasks l1∧Sp1 c s.m l1 s.turns (doM c s e).m (doM c s e).tasks (doM c s e).turns:=by
 unfold doM
 split
 ·rename_i ht
  have htl:e.thread.toNat<thrN c:=by unfold thrN;omega
  generalize e.thread.toNat=t at *
  have hgo:(goesM c (AP s) t).m=s.m∧Bg c s.tasks (goesM c (AP s) t).tasks∧(goesM c (AP s) t).turns=s.turns:=by
   unfold goesM
   split
   ·exact ⟨rfl,.inl rfl,rfl⟩
   ·split
    ·split
     ·rename_i s' hs'
      obtain ⟨h1,h2,h3,rfl⟩:=CI hs'
      exact ⟨rfl,.inr ⟨t,_,htl,h1,h2,h3,rfl⟩,rfl⟩
     ·exact ⟨rfl,.inl rfl,rfl⟩
    ·exact ⟨rfl,.inl rfl,rfl⟩
  split
  ·unfold pickM
   dsimp only
   generalize goesM c (AP s) t=s1 at *
   obtain ⟨g1,g2,g3⟩:=hgo
   split
   ·exact ⟨_,g2,.inl ⟨g1,rfl,g3⟩⟩
   ·rename_i hpc
    have hc:(AU s1 t).m=s1.m∧(AU s1 t).tasks=s1.tasks∧(AU s1 t).turns=s1.turns:=by unfold AU;split<;>exact ⟨rfl,rfl,rfl⟩
    have htk:tkM (AU s1 t) t=s1.tasks.getD t AK:=by unfold tkM;rw [hc.2.1]
    refine ⟨_,g2,.inr ⟨t,(AU s1 t).time,htl,hpc,?_⟩⟩
    unfold KO
    dsimp only
    rw [htk,hc.1,hc.2.1, ←g1, ←g3]
    generalize hO:stepT c t (s1.tasks.getD t AK) s1.m=o at *
    have hb : ∀q:Mc,(FG q t o).m=q.m∧(FG q t o).tasks=q.tasks∧(FG q t o).turns=q.turns:=fun q=>by unfold FG;split<;>exact ⟨rfl,rfl,rfl⟩
    have hn : ∀q:Mc,(noteM q t o).m=q.m∧(noteM q t o).tasks=q.tasks∧(noteM q t o).turns=q.turns:=fun q=>by unfold noteM;split<;>exact ⟨rfl,rfl,rfl⟩
    rw [(hb _).1,(hb _).2.1,(hb _).2.2,(hn _).1,(hn _).2.1,(hn _).2.2]
    unfold wonM
    cases hw:o.won
    ·simp only [iC,jC]
     exact ⟨trivial,trivial,hc.2.2⟩
    ·simp only [jL]
     exact ⟨trivial,trivial,by rw [hc.2.2]⟩
  ·split
   ·unfold callM
    split
    ·split
     ·rename_i s' hs'
      obtain ⟨h1,h2,h3,rfl⟩:=CI hs'
      exact ⟨_,.inr ⟨t,_,htl,h1,h2,h3,rfl⟩,.inl ⟨rfl,rfl,rfl⟩⟩
     ·exact ⟨_,.inl rfl,.inl ⟨rfl,rfl,rfl⟩⟩
    ·exact ⟨_,.inl rfl,.inl ⟨rfl,rfl,rfl⟩⟩
   ·split
    ·unfold pumpM
     split
     ·exact ⟨_,.inl rfl,.inl ⟨rfl,rfl,rfl⟩⟩
     ·split
      ·exact ⟨_,.inl rfl,.inl ⟨rfl,rfl,rfl⟩⟩
      ·exact ⟨_,.inl rfl,.inl ⟨rfl,rfl,rfl⟩⟩
    ·exact ⟨_,.inl rfl,.inl ⟨rfl,rfl,rfl⟩⟩
 ·exact ⟨_,.inl rfl,.inl ⟨rfl,rfl,rfl⟩⟩
theorem GQ {c:AB} {l:List AC} (hl:(l.length:Int)=c.threads) {t:Nat} (ht:t<thrN c):l[t]? = some (l.getD t AK):=by
 have hlt:t<l.length:=by unfold thrN at ht;omega
 rw [fK,ZgE hlt];rfl
theorem VZ {c:AB} (f:Okc c) {S:List Nm} {H:Nat→Int} {m:Mm} {l l1:List AC} {u:List DA} (A:All c S H m l u) (b:Bg c l l1):All c S H m l1 u:=by
 rcases b with rfl|⟨t,q,ht,hp,hq,hs,rfl⟩
 ·exact A
 ·exact HC f A (GQ A.inv.ll ht) hp hq hs
theorem ApK (c:AB) (s:Mc) (e:EG) (f:Okc c) {S:List Nm} {H:Nat→Int} (A:All c S H s.m s.tasks s.turns):(doM c s e).m.log.length≤s.m.log.length+1:=by
 obtain ⟨l1,b,p⟩:=AuT c s e
 rcases p with ⟨h, -⟩|⟨t,z,ht,h0,h, -⟩
 ·rw [h];exact jY _
 ·have A1:=VZ f A b
  have hx:=GQ A1.inv.ll ht
  obtain ⟨a,h1, -⟩:=GC (t:=t) (m:=s.m) (A1.inv.loc _ _ hx) h0
  rw [h,h1,fJ];exact fN _
end Go.Proofs.YtccefppppedgkaaGreat
namespace Go.Proofs.YtccefppppedgkaaGreat
def okP (p:FE):Prop:=p.outs.length≤8∧0≤p.at_∧p.at_≤8
structure Ms (c:AB) (s:Mc) (N U T B:Nat):Prop where
 pl:s.pumps.length=thrN c
 sl:s.steps.length=thrN c
 ml:s.most.length=thrN c
 nl:s.notes.length≤N
 ul:s.turns.length≤U
 tm:0≤s.time∧s.time≤T
 st : ∀x∈s.steps,0≤x∧x≤(B:Int)
 mo : ∀x∈s.most,0≤x∧x≤(B:Int)
 rq : ∀x∈s.tasks,x.req.cases.length≤3
 pu : ∀p∈s.pumps,okP p
theorem IM {α:Type} {P:α→Prop} {l:List α} {i:Nat} {a:α} (h : ∀x∈l,P x) (ha:P a) : ∀x∈l.set i a,P x:=fun x hx=>by
 rcases iN hx with h'|h'
 ·exact h x h'
 ·rw [h'];exact ha
theorem LT {q:AT} (h:BR q=true):q.cases.length≤3:=by
 unfold BR at h
 simp only [fX,gE] at h
 exact h.1.2
theorem n_ {p:FE} (h:okP p) (r:Rst):okP (gotP p r):=by
 obtain ⟨h1,h2,h3⟩:=h
 unfold gotP
 dsimp only
 refine ⟨h1,?_⟩
 show 0≤(got p.on p.shut p.over p.at_ p.value p.outs.length r.code r.value).at_∧(got p.on p.shut p.over p.at_ p.value p.outs.length r.code r.value).at_≤8
 unfold got
 split
 ·exact ⟨h2,h3⟩
 ·rename_i hno
  have hno':CP p.on p.shut p.over p.at_ p.outs.length=false:=by
   cases e:CP p.on p.shut p.over p.at_ p.outs.length
   ·rfl
   ·exact absurd (.inl e) hno
  obtain ⟨-, -,n1,n2,n3⟩:=a7_ hno'
  split
  ·exact ⟨h2,h3⟩
  ·split
   ·rename_i hs
    have:=n3 hs
    dsimp only;omega
   ·split
    ·dsimp only
     split<;>omega
    ·split
     ·exact ⟨(by decide:(0:Int)≤1),(by decide:(1:Int)≤8)⟩
     ·exact ⟨h2,h3⟩
variable {c:AB} {N U T B t:Nat}
theorem a5_ {s s':Mc} {q:AT} (h:Ms c s N U T B) (e:FQ c s t q=some s'):Ms c s' (N+1) U T B:=by
 obtain ⟨h1,h2,h3,rfl⟩:=CI e
 exact ⟨h.pl,by rw [iJ];exact h.sl,h.ml,by rw [fJ];have:=h.nl;simp only [gQ];omega,h.ul,h.tm,IM h.st ⟨gG _,by omega⟩,h.mo,IM h.rq (LT h2),h.pu⟩
variable {s:Mc}
theorem Ms.mono {N U T B N' U' T' B':Nat} (h:Ms c s N U T B) (a:N≤N') (b:U≤U') (d:T≤T') (e:B≤B'):Ms c s N' U' T' B' :=
 ⟨h.pl,h.sl,h.ml,iZ h.nl a,iZ h.ul b,by have:=h.tm;omega,fun x hx=>by have:=h.st x hx;omega,fun x hx=>by have:=h.mo x hx;omega,h.rq,h.pu⟩
theorem JW (h:Ms c s N U T B):Ms c (AP s) N U (T+1) B :=
 ⟨h.pl,h.sl,h.ml,h.nl,h.ul,by have:=h.tm;show 0≤s.time+1∧s.time+1≤_;omega,h.st,h.mo,h.rq,h.pu⟩
theorem RQ (h:Ms c s N U T B) {p:FE} (hp:okP p):Ms c { s with pumps:=s.pumps.set t p } N U T B :=
 ⟨by rw [iJ];exact h.pl,h.sl,h.ml,h.nl,h.ul,h.tm,h.st,h.mo,h.rq,IM h.pu hp⟩
theorem AfJ (h:Ms c s N U T B) (t:Nat):okP (puM s t):=by
 unfold puM
 rw [fK]
 cases e:s.pumps[t]? with
 |none=>exact ⟨(by decide:0≤8),(by decide:(0:Int)≤0),(by decide:(0:Int)≤8)⟩
 |some p=>exact h.pu p (fI e)
theorem WT (h:Ms c s N U T B):Ms c (goesM c s t) (N+1) U T B:=by
 have hm:=h.mono (jY N) (fN _) (fN _) (fN _)
 unfold goesM
 split
 ·exact hm
 ·split
  ·split
   ·rename_i e;exact a5_ h e
   ·exact RQ hm (n_ (AfJ h t) _)
  ·exact hm
theorem AcS {l:List Int} (h : ∀x∈l,0≤x∧x≤(B:Int)) (t:Nat):0≤l.getD t 0∧l.getD t 0≤(B:Int):=by
 rw [fK]
 cases e:l[t]? with
 |none=>exact ⟨gG _,by show (0:Int)≤_;omega⟩
 |some x=>exact h x (fI e)
theorem AeM (h:Ms c s N U T B):Ms c (AU s t) N U T (B+1):=by
 have hm:=h.mono (fN N) (fN _) (fN _) (jY B)
 unfold AU
 split
 ·exact hm
 ·have h1:=AcS h.st t
  have h2:=AcS h.mo t
  exact ⟨h.pl,by rw [iJ];exact h.sl,by rw [iJ];exact h.ml,h.nl,h.ul,h.tm,IM hm.st (by omega),IM hm.mo (by omega),h.rq,h.pu⟩
theorem AkK (h:Ms c s N U T B) (hl:AQ c (tkM s t)) (ht:t<s.tasks.length):Ms c (KO c s t) (N+1) (U+1) T B:=by
 have hq:(stepT c t (tkM s t) s.m).x.req.cases.length≤3:=by
  rw [HO hl]
  have e:s.tasks[t]? = some (tkM s t):=by unfold tkM;rw [fK,ZgE ht];rfl
  exact h.rq _ (fI e)
 unfold KO
 dsimp only
 generalize stepT c t (tkM s t) s.m=o at *
 have h1:Ms c (wonM { s with m:=o.m,tasks:=s.tasks.set t o.x } t o) N (U+1) T B:=by
  unfold wonM
  split
  ·exact ⟨h.pl,h.sl,h.ml,h.nl,by rw [fJ];have:=h.ul;simp only [gQ];omega,h.tm,h.st,h.mo,IM h.rq hq,h.pu⟩
  ·exact ⟨h.pl,h.sl,h.ml,h.nl,Nat.le_succ_of_le h.ul,h.tm,h.st,h.mo,IM h.rq hq,h.pu⟩
 generalize wonM { s with m:=o.m,tasks:=s.tasks.set t o.x } t o=s1 at *
 have h2:Ms c (noteM s1 t o) (N+1) (U+1) T B:=by
  unfold noteM
  split
  ·exact h1.mono (jY N) (fN _) (fN _) (fN _)
  ·exact ⟨h1.pl,h1.sl,h1.ml,by rw [fJ];have:=h1.nl;simp only [gQ];omega,h1.ul,h1.tm,h1.st,h1.mo,h1.rq,h1.pu⟩
 generalize noteM s1 t o=s2 at *
 unfold FG
 split
 ·exact RQ h2 (n_ (AfJ h2 t) _)
 ·exact h2
theorem AkI {q:AT} (h:Ms c s N U T B):Ms c (callM c s t q) (N+2) U (T+1) B:=by
 unfold callM
 split
 ·split
  ·rename_i e
   exact (a5_ (JW h) e).mono (jY _) (fN _) (fN _) (fN _)
  ·have k:=JW h
   exact ⟨k.pl,k.sl,k.ml,by rw [fJ];have:=h.nl;simp only [fY,gB];omega,k.ul,k.tm,k.st,k.mo,k.rq,k.pu⟩
 ·exact h.mono (by omega) (fN _) (by omega) (fN _)
theorem AkJ {inn:Int} {outs:List Int} (h:Ms c s N U T B):Ms c (pumpM c s t inn outs) N U (T+1) B:=by
 have hm:=h.mono (fN N) (fN U) (jY T) (fN B)
 unfold pumpM
 split
 ·exact hm
 ·rename_i p hp
  split
  ·refine RQ (JW h) ?_
   unfold XS at hp
   split at hp
   ·rename_i hs
    cases hp
    exact ⟨hs.2.2.1,(by decide:(0:Int)≤0),(by decide:(0:Int)≤8)⟩
   ·cases hp
  ·exact hm
theorem AqW (c:AB):Ms c (newM c) 0 0 0 0:=by
 refine ⟨iM,iM,iM,fN _,fN _,⟨gG _,gG _⟩,fun x hx=>?_,fun x hx=>?_,fun x hx=>?_,fun p hp=>?_⟩
 ·rw [iS hx];exact ⟨gG _,gG _⟩
 ·rw [iS hx];exact ⟨gG _,gG _⟩
 ·obtain ⟨t,_,rfl⟩:=iP.1 hx
  exact fO _
 ·rw [iS hp];exact ⟨(by decide:0≤8),(by decide:(0:Int)≤0),(by decide:(0:Int)≤8)⟩
structure Mq (c:AB) (s:Mc) (k:Nat):Prop where
 kn:VT c s.m s.tasks s.turns
 ms:Ms c s (2*k) k k k
 ll:s.m.log.length≤k
theorem AeL (f:Okc c):Mq c (newM c) 0:=⟨n7_ f,AqW c,fN _⟩
theorem AxQ (f:Okc c) {k:Nat} (h:Mq c s k) (e:EG):Mq c (doM c s e) (k+1):=by
 obtain ⟨S,H,A,L⟩:=h.kn
 refine ⟨AqN f h.kn e,?_,iZ (ApK c s e f A) (Nat.succ_le_succ h.ll)⟩
 have hms:=h.ms
 have hm:Ms c s (2*(k+1)) (k+1) (k+1) (k+1):=hms.mono (by omega) (by omega) (by omega) (by omega)
 unfold doM
 split
 ·rename_i ht
  have htl:e.thread.toNat<thrN c:=by unfold thrN;omega
  generalize e.thread.toNat=t at *
  split
  ·unfold pickM
   dsimp only
   have g:=WT (t:=t) (JW hms)
   have gb:Bg c s.tasks (goesM c (AP s) t).tasks∧(goesM c (AP s) t).m=s.m∧(goesM c (AP s) t).turns=s.turns:=by
    unfold goesM
    split
    ·exact ⟨.inl rfl,rfl,rfl⟩
    ·split
     ·split
      ·rename_i s' hs'
       obtain ⟨h1,h2,h3,rfl⟩:=CI hs'
       exact ⟨.inr ⟨t,_,htl,h1,h2,h3,rfl⟩,rfl,rfl⟩
      ·exact ⟨.inl rfl,rfl,rfl⟩
     ·exact ⟨.inl rfl,rfl,rfl⟩
   generalize goesM c (AP s) t=s1 at *
   split
   ·exact g.mono (by omega) (by omega) (by omega) (by omega)
   ·rename_i hpc
    have A1:=VZ f A gb.1
    have hx:=GQ A1.inv.ll htl
    have hc:=AeM (t:=t) g
    have e1:tkM (AU s1 t) t=s1.tasks.getD t AK:=by unfold AU tkM;split<;>rfl
    have e2:(AU s1 t).tasks=s1.tasks:=by unfold AU;split<;>rfl
    refine (AkK hc ?_ ?_).mono (by omega) (by omega) (by omega) (by omega)
    ·rw [e1];exact A1.inv.loc t _ hx
    ·rw [e2];exact (gZ.1 hx).1
  ·split
   ·exact (AkI hms).mono (by omega) (by omega) (by omega) (by omega)
   ·split
    ·exact (AkJ hms).mono (by omega) (by omega) (by omega) (by omega)
    ·exact hm
 ·exact hm
end Go.Proofs.YtccefppppedgkaaGreat
namespace Go.Proofs.YtccefppppedgkaaGreat
structure LnT (B:Nat) (x:AC):Prop where
 bf:x.buf.length≤B
 nx:x.nxt.length≤B
 ar:x.args.length≤B+5
 se:x.seen.length≤B
variable {x:AC}
theorem LnT.mono {A B:Nat} (h:LnT A x) (e:A≤B):LnT B x:=⟨iZ h.bf e,iZ h.nx e,iZ h.ar (by omega),iZ h.se e⟩
variable {B:Nat} {c:AB}
theorem n9_ (h:LnT B x):LnT B (takeT c x):=by
 obtain ⟨p,sc,r,e, -⟩:=HP c x
 rw [e];exact ⟨h.bf,h.nx,h.ar,h.se⟩
theorem WP (h:LnT B x):LnT B (failT c x):=by
 obtain ⟨p,e, -⟩:=JD c x
 rw [e];exact ⟨h.bf,h.nx,h.ar,h.se⟩
theorem IE (h:LnT B x):LnT B (nextSeqT c x):=by
 obtain ⟨i,tr,p,e, -⟩:=JI c x
 rw [e];exact ⟨h.bf,h.nx,h.ar,h.se⟩
theorem PE {B t:Nat} (h:LnT B x):LnT B (nextMailT c t x):=by
 obtain ⟨i,p,f,n,e,hp⟩:=FL c t x
 rw [e]
 rcases hp with ⟨_,_,_,_,rfl⟩|⟨_,_,_,_,rfl⟩
 ·exact ⟨h.bf,h.nx,h.ar,h.se⟩
 ·exact ⟨h.bf,by show (allO c x.buf (GW t x)).length≤B;rw [YG];exact h.bf,h.ar,h.se⟩
theorem KV (h:LnT B x):LnT B (scannedT c x):=by
 rcases EF c x with ⟨_,e⟩|⟨_,e⟩
 ·rw [e];exact n9_ h
 ·rw [e];exact ⟨h.bf,h.nx,h.ar,h.se⟩
theorem ZV {m:Mm} (h:LnT B x):LnT B (ownedT c x m).x:=by
 rcases JX c x m with ⟨_,e⟩|⟨_,_,e⟩|⟨_,_,e⟩
 ·rw [e];exact ⟨fO _,fO _,fO _,fO _⟩
 ·rw [e];exact ⟨h.bf,h.nx,h.ar,h.se⟩
 ·rw [e];exact ⟨h.bf,h.nx,h.ar,h.se⟩
theorem AjU {t B:Nat} {m:Mm} (h:AQ c x) (r:LnT B x):LnT (B+1) (stepT c t x m).x:=by
 have k:=r.mono (jY B)
 have h1:=r.bf
 have h2:=r.ar
 have h3:=r.se
 obtain ⟨q,p,hk2, -⟩:=BE h
 rw [AE p]
 have hz:=AS hk2
 repeat' (rcases hz with rfl|hz)
 ·exact ⟨k.bf,k.nx,k.ar,k.se⟩
 ·exact ⟨k.bf,k.nx,k.ar,k.se⟩
 ·exact n9_ k
 ·exact ⟨k.bf,k.nx,k.ar,k.se⟩
 ·exact ⟨k.bf,k.nx,k.ar,k.se⟩
 ·change LnT _ (s5 c t x m).x;unfold s5
  dsimp only
  split
  ·exact ⟨k.bf,k.nx,k.ar,k.se⟩
  ·exact WP k
 ·change LnT _ (s6 c t x m).x;unfold s6
  dsimp only
  split
  ·exact ⟨fO _,k.nx,k.ar,k.se⟩
  ·exact WP k
 ·change LnT _ (s7 c t x m).x;unfold s7 BA
  dsimp only
  have hb1:(x.buf++[ld m (aNode c x.base.index+1+x.i)]).length≤B+1:=fE
  split
  ·exact ⟨hb1,k.nx,k.ar,k.se⟩
  ·split
   ·exact ⟨hb1,k.nx,k.ar,k.se⟩
   ·exact ⟨hb1,k.nx,k.ar,k.se⟩
 ·change LnT _ (s8 c t x m).x;unfold s8
  dsimp only
  split
  ·exact IE ⟨k.bf,k.nx,k.ar,k.se⟩
  ·exact ⟨k.bf,k.nx,fO _,k.se⟩
 ·change LnT _ (s9 c t x m).x;unfold s9
  dsimp only
  have ha1:(x.args++[ld m (EP c x.i+x.j)]).length≤B+1+5:=fE
  split
  ·exact ⟨k.bf,k.nx,ha1,k.se⟩
  ·exact ⟨k.bf,k.nx,ha1,k.se⟩
 ·change LnT _ (s10 c t x m).x;unfold s10 CE
  dsimp only
  split
  ·split
   ·exact IE ⟨k.bf,k.nx,k.ar,k.se⟩
   ·exact IE k
  ·exact IE k
 ·change LnT _ (s11 c t x m).x;unfold s11
  dsimp only
  split
  ·exact ⟨k.bf,k.nx,k.ar,k.se⟩
  ·exact PE ⟨k.bf,k.nx,k.ar,k.se⟩
 ·change LnT _ (s12 c t x m).x;unfold s12
  dsimp only
  split
  ·exact PE ⟨k.bf,k.nx,k.ar,k.se⟩
  ·exact ⟨k.bf,k.nx,k.ar,k.se⟩
 ·exact ⟨k.bf,k.nx,k.ar,k.se⟩
 ·change LnT _ (s14 c t x m).x;unfold s14
  dsimp only
  split
  ·exact ⟨k.bf,k.nx,k.ar,k.se⟩
  ·exact ⟨k.bf,k.nx,k.ar,k.se⟩
 ·change LnT _ (s15 c t x m).x;unfold s15
  split
  ·exact ⟨k.bf,k.nx,k.ar,k.se⟩
  ·exact WP k
 ·exact ⟨k.bf,k.nx,(by show (HW _ _).length≤_;unfold HW;split;(rw [show (HD x.req (ld m 2%4294967296)).length=5 by simp [HD,CQ]];omega);exact fO _),k.se⟩
 ·change LnT _ (s17 c t x m).x;unfold s17
  dsimp only
  split
  ·exact ⟨k.bf,k.nx,k.ar,k.se⟩
  ·exact ⟨k.bf,k.nx,k.ar,k.se⟩
 ·exact ⟨k.bf,k.nx,k.ar,k.se⟩
 ·exact ⟨k.bf,k.nx,k.ar,k.se⟩
 ·exact ⟨k.bf,k.nx,k.ar,k.se⟩
 ·exact ⟨k.bf,k.nx,k.ar,k.se⟩
 ·change LnT _ (s22 c t x m).x;unfold s22
  dsimp only
  split
  ·exact ⟨k.bf,k.nx,k.ar,k.se⟩
  ·exact ZV ⟨k.bf,k.nx,k.ar,k.se⟩
 ·change LnT _ (s23 c t x m).x;unfold s23
  dsimp only
  split
  ·exact ZV ⟨k.bf,k.nx,k.ar,k.se⟩
  ·exact ⟨k.bf,k.nx,k.ar,k.se⟩
 ·change LnT _ (s24 c t x m).x;unfold s24
  dsimp only
  split
  ·exact ⟨k.bf,k.nx,k.ar,k.se⟩
  ·exact KV ⟨k.bf,k.nx,k.ar,k.se⟩
 ·change LnT _ (s25 c t x m).x;unfold s25
  dsimp only
  split
  ·exact ⟨k.bf,k.nx,k.ar,k.se⟩
  ·exact ⟨k.bf,k.nx,k.ar,fO _⟩
 ·change LnT _ (s26 c t x m).x;unfold s26
  dsimp only
  generalize (if ld m 1=x.word then backP x.pool (prE (x.word+1)) else x.pool)=pl at *
  split
  ·exact ⟨k.bf,k.nx,k.ar,k.se⟩
  ·exact KV ⟨k.bf,k.nx,k.ar,k.se⟩
 ·change LnT _ (s27 c t x m).x;unfold s27
  dsimp only
  have hs1:(x.seen++[ld m (aHaz c x.i)]).length≤B+1:=fE
  split
  ·exact KV ⟨k.bf,k.nx,k.ar,hs1⟩
  ·exact ⟨k.bf,k.nx,k.ar,hs1⟩
 ·change LnT _ (s28 c t x m).x;unfold s28
  split
  ·exact ⟨fO _,fO _,fO _,fO _⟩
  ·exact ⟨fO _,fO _,fO _,fO _⟩
 ·change LnT _ (s29 c t x m).x;unfold s29
  dsimp only
  split
  ·exact ⟨fO _,fO _,fO _,fO _⟩
  ·exact ⟨k.bf,k.nx,k.ar,k.se⟩
 ·exact ⟨k.bf,k.nx,k.ar,k.se⟩
 ·exact ⟨k.bf,k.nx,k.ar,k.se⟩
 ·exact ⟨k.bf,k.nx,k.ar,k.se⟩
 ·exact ⟨k.bf,k.nx,k.ar,k.se⟩
 ·exact ⟨k.bf,k.nx,k.ar,k.se⟩
 ·exact ⟨k.bf,k.nx,k.ar,k.se⟩
 ·exact ⟨k.bf,k.nx,k.ar,k.se⟩
 ·exact ⟨k.bf,k.nx,k.ar,k.se⟩
 ·change LnT _ (s38 c t x m).x;unfold s38
  dsimp only
  split
  ·exact ⟨k.bf,k.nx,k.ar,k.se⟩
  ·exact ⟨k.bf,k.nx,k.ar,k.se⟩
def LnK (c:AB) (m:Mm) (l:List AC) (u:List DA):Prop:=(∃S H,All c S H m l u) ∧ ∀(t:Nat) x,l[t]? = some x→LnT m.log.length x
theorem AqP (f:Okc c):LnK c (newM c).m (newM c).tasks (newM c).turns:=⟨⟨_,_,VW f⟩,fun t x h=>by
 obtain ⟨_,rfl⟩:=FW h
 exact ⟨fO _,fO _,fO _,fO _⟩⟩
theorem AxP (f:Okc c) {s:Mc} (h:LnK c s.m s.tasks s.turns) (e:EG):LnK c (doM c s e).m (doM c s e).tasks (doM c s e).turns:=by
 refine WF (K:=LnK c) (fun m l u t q h ht hp hq hs=>?_) (fun m l u t z h ht h0=>?_) h e
 all_goals
  obtain ⟨⟨S,H,A⟩,L⟩:=h
  have hx:=GQ A.inv.ll ht
 ·refine ⟨⟨S,H,HC f A hx hp hq hs⟩,fun u y hy=>?_⟩
  rcases AG hy with ⟨rfl,rfl⟩|⟨_,hy⟩
  ·exact ⟨fO _,fO _,fO _,fO _⟩
  ·exact L u y hy
 ·obtain ⟨S',H',B,_⟩:=LN (z:=z) f A hx h0
  refine ⟨⟨S',H',B⟩,fun u y hy=>?_⟩
  have k:=A.inv.ctx f hx h0
  obtain ⟨e,h1, -⟩:=GC (t:=t) (m:=m) k.h k.h0
  have hl:(stepT c t (l.getD t AK) m).m.log.length=m.log.length+1:=by rw [h1,fJ];rfl
  rw [hl]
  rcases AG hy with ⟨rfl,rfl⟩|⟨_,hy⟩
  ·exact AjU k.h (L _ _ hx)
  ·exact (L u y hy).mono (jY _)
end Go.Proofs.YtccefppppedgkaaGreat
namespace Go.Proofs.YtccefppppedgkaaGreat
def TnK (c:AB) (m:Mm) (l:List AC) (u:List DA):Prop:=VT c m l u∧(m.log.length≤1048576 → ∀v∈u,v.ops.length≤m.log.length ∧ ∀o∈v.ops,t5_ o)
theorem AtE {c:AB} (f:Okc c):TnK c (newM c).m (newM c).tasks (newM c).turns:=⟨n7_ f,fun _ v h=>by cases h⟩
theorem AyN {c:AB} (f:Okc c) {s:Mc} (h:TnK c s.m s.tasks s.turns) (e:EG):TnK c (doM c s e).m (doM c s e).tasks (doM c s e).turns:=by
 refine WF (K:=TnK c) (fun m l u t q h ht hp hq hs=>?_) (fun m l u t z h ht h0=>?_) h e
 ·obtain ⟨⟨S,H,A,L⟩,T⟩:=h
  have hx:=GQ A.inv.ll ht
  exact ⟨⟨S,H,HC f A hx hp hq hs,NN L hx q⟩,T⟩
 ·obtain ⟨⟨S,H,A,L⟩,T⟩:=h
  have hx:=GQ A.inv.ll ht
  obtain ⟨S',H',B,_⟩:=LN (z:=z) f A hx h0
  refine ⟨⟨S',H',B,ZX f A.inv L hx h0⟩,fun hl v hv=>?_⟩
  have k:=A.inv.ctx f hx h0
  obtain ⟨e,h1, -⟩:=GC (t:=t) (m:=m) k.h k.h0
  have hlen:(stepT c t (l.getD t AK) m).m.log.length=m.log.length+1:=by rw [h1,fJ];rfl
  have T0:=T (by omega)
  obtain ⟨-,R⟩:=L (by omega)
  have r:=R _ _ hx
  by_cases hr:(l.getD t AK).pc=15∧ld m 0=wdF (l.getD t AK).base
  ·obtain ⟨w1,w2⟩:=p5_ (t:=t) (m:=m) (c:=c) hr.1 hr.2
   rw [w1,w2,fL rfl] at hv
   rcases gJ.1 hv with hv|hv
   ·have:=T0 v hv;exact ⟨by omega,this.2⟩
   ·rw [iT.1 hv]
    have:=r.fl
    exact ⟨by dsimp only;omega,r.fo⟩
  ·rw [e1_ k.h hr] at hv
   have:=T0 v hv;exact ⟨by omega,this.2⟩
def NtK (s:Mc):Prop:=∀x∈s.notes,x.req.cases.length≤3
theorem m_ {α:Type} {P:α→Prop} {l:List α} {a:α} (h : ∀x∈l,P x) (ha:P a) : ∀x∈l++[a],P x:=fun x hx=>by
 rcases gJ.1 hx with h'|h'
 ·exact h x h'
 ·rw [iT.1 h'];exact ha
theorem a9_ {c:AB} {s s':Mc} {t:Nat} {q:AT} (h:NtK s) (e:FQ c s t q=some s'):NtK s':=by
 obtain ⟨h1,h2,h3,rfl⟩:=CI e
 exact m_ h (LT h2)
theorem AxT {c:AB} (f:Okc c) {s:Mc} {k:Nat} (M:Mq c s k) (h:NtK s) (e:EG):NtK (doM c s e):=by
 obtain ⟨S,H,A,L⟩:=M.kn
 unfold doM
 split
 ·rename_i ht
  have htl:e.thread.toNat<thrN c:=by unfold thrN;omega
  generalize e.thread.toNat=t at *
  split
  ·unfold pickM
   dsimp only
   have g:NtK (goesM c (AP s) t)∧Bg c s.tasks (goesM c (AP s) t).tasks:=by
    unfold goesM
    split
    ·exact ⟨h,.inl rfl⟩
    ·split
     ·split
      ·rename_i s' hs'
       obtain ⟨h1,h2,h3,e1⟩:=CI hs'
       refine ⟨a9_ (s:=AP s) h hs',?_⟩
       rw [e1]
       exact .inr ⟨t,_,htl,h1,h2,h3,rfl⟩
      ·exact ⟨h,.inl rfl⟩
     ·exact ⟨h,.inl rfl⟩
   have gq : ∀x∈(goesM c (AP s) t).tasks,x.req.cases.length≤3:=(WT (t:=t) (JW M.ms)).rq
   generalize goesM c (AP s) t=s1 at *
   split
   ·exact g.1
   ·rename_i hpc
    have A1:=VZ f A g.2
    have hx:=GQ A1.inv.ll htl
    have e1:tkM (AU s1 t) t=s1.tasks.getD t AK:=by unfold AU tkM;split<;>rfl
    have e2:(AU s1 t).notes=s1.notes:=by unfold AU;split<;>rfl
    have e3:(AU s1 t).m=s1.m:=by unfold AU;split<;>rfl
    have hq:(stepT c t (s1.tasks.getD t AK) s1.m).x.req.cases.length≤3:=by
     rw [HO (A1.inv.loc t _ hx)]
     exact gq _ (fI hx)
    unfold KO
    dsimp only
    rw [e1,e3]
    generalize stepT c t (s1.tasks.getD t AK) s1.m=o at *
    have b : ∀q:Mc,(FG q t o).notes=q.notes:=fun q=>by unfold FG;split<;>rfl
    have w : ∀q:Mc,(wonM q t o).notes=q.notes:=fun q=>by unfold wonM;split<;>rfl
    intro x hx'
    rw [b] at hx'
    unfold noteM at hx'
    split at hx'
    ·rw [w] at hx';dsimp only at hx';rw [e2] at hx';exact g.1 x hx'
    ·dsimp only at hx'
     rw [w] at hx'
     dsimp only at hx'
     rw [e2] at hx'
     exact m_ g.1 hq x hx'
  ·split
   ·unfold callM
    split
    ·rename_i hok
     split
     ·rename_i e'
      exact a9_ (s:=AP s) h e'
     ·unfold KR at hok
      simp only [fX] at hok
      have hq:=LT hok.2
      intro x hx
      rcases gJ.1 hx with hx|hx
      ·exact h x hx
      ·rcases iE.1 hx with rfl|hx
       ·exact hq
       ·rw [iT.1 hx];exact hq
    ·exact h
   ·split
    ·unfold pumpM
     split
     ·exact h
     ·split
      ·exact h
      ·exact h
    ·exact h
 ·exact h
structure Mz (c:AB) (s:Mc) (k:Nat):Prop where
 q:Mq c s k
 l:LnK c s.m s.tasks s.turns
 t:TnK c s.m s.tasks s.turns
 n:NtK s
theorem i5_ {c:AB} (f:Okc c):Mz c (newM c) 0:=⟨AeL f,AqP f,AtE f,fun x h=>by cases h⟩
theorem AeP {c:AB} (f:Okc c) {s:Mc} {k:Nat} (h:Mz c s k) (e:EG):Mz c (doM c s e) (k+1):=⟨AxQ f h.q e,AxP f h.l e,AyN f h.t e,AxT f h.q h.n e⟩
theorem MA {c:AB} (f:Okc c) : ∀(l:List EG) {s:Mc} {k:Nat},Mz c s k→Mz c (l.foldl (doM c) s) (k+l.length)
 | [],_,_,h=>h
 |e::l,_,k,h=>by
  have:=MA f l (AeP f h e)
  rw [fY,show k+(l.length+1)=k+1+l.length by omega]
  exact this
theorem AkM {c:AB} (f:Okc c) (l:List EG):Mz c (playM c l) l.length:=by
 have h:=MA f l (i5_ f)
 rw [gK] at h
 exact h
end Go.Proofs.YtccefppppedgkaaGreat
namespace Go.Proofs.YtccefppppedgkaaGreat
theorem KD (tags:Int) (l:List HR):l.foldl (EO tags) none=none:=by
 induction l with
 |nil=>rfl
 |cons a l ih=>exact ih
theorem KP (tags last:Int) (seen:List Int) (a:HR):EO tags (some (last,seen)) a=if a.addr≠0∨a.kind≠3∨a.ok=false then (if a.addr=0∧a.kind≠1∧a.kind≠3 then none else some (last,seen)) else if JM a.now=true∧a.want=last∧rdT a.now≤tags∧a.now ∉ seen then some (a.now,seen++[a.now]) else none:=rfl
theorem OK (tags:Int) : ∀(l:List HR) (last:Int) (seen:List Int) (x:Int) (L:List Int),l.foldl (EO tags) (some (last,seen))=some (x,L) → ∀w∈seen,w∈L
 | [],_,_,_,_,h,w,hw=>by cases h;exact hw
 | a::l,last,seen,x,L,h,w,hw=>by
  rw [kE] at h
  rw [KP] at h
  split at h
  ·split at h
   ·rw [show (l.foldl _ none:Option (Int × List Int))=none from KD tags l] at h;cases h
   ·exact OK tags l last seen x L h w hw
  ·split at h
   ·exact OK tags l _ _ x L h w (iL _ hw)
   ·rw [show (l.foldl _ none:Option (Int × List Int))=none from KD tags l] at h;cases h
theorem z7_ {tags:Int} {log:List HR} {x:Int} {L:List Int} (h:FA tags log=some (x,L)) {q:Nat} {a:HR} (ha:log[q]? = some a) {last:Int} {seen:List Int} (hp:FA tags (log.take q)=some (last,seen)) :
  ((a.addr≠0∨a.kind≠3∨a.ok=false) ∧ ¬(a.addr=0∧a.kind≠1∧a.kind≠3)∧FA tags (log.take (q+1))=some (last,seen)) ∨
  (a.addr=0∧a.kind=3∧a.ok=true∧JM a.now=true∧a.want=last∧rdT a.now≤tags∧a.now ∉ seen∧FA tags (log.take (q+1))=some (a.now,seen++[a.now])∧a.now∈L):=by
 have e1:FA tags (log.take (q+1))=EO tags (some (last,seen)) a:=by rw [iG,ha, ←hp];exact OJ _ _ _
 have e2:FA tags log=(log.drop (q+1)).foldl (EO tags) (FA tags (log.take (q+1))):=by
  have:log=log.take (q+1)++log.drop (q+1):=(iR _ _).symm
  conv=>lhs;rw [this]
  unfold FA;rw [jM]
 rw [e1] at e2 ⊢
 rw [h] at e2
 rw [KP] at e2 ⊢
 by_cases g1:a.addr≠0∨a.kind≠3∨a.ok=false
 ·rw [fL g1] at e2 ⊢
  by_cases g2:a.addr=0∧a.kind≠1∧a.kind≠3
  ·rw [fL g2] at e2
   have:=e2.trans (KD tags _)
   cases this
  ·rw [fM g2]
   exact .inl ⟨g1,g2,rfl⟩
 ·rw [fM g1] at e2 ⊢
  by_cases g2:JM a.now=true∧a.want=last∧rdT a.now≤tags∧a.now ∉ seen
  ·rw [fL g2] at e2 ⊢
   refine .inr ⟨lG fun k=>g1 (.inl k),lG fun k=>g1 (.inr (.inl k)),?_,g2.1,g2.2.1,g2.2.2.1,g2.2.2.2,rfl,?_⟩
   ·cases e:a.ok
    ·exact absurd (.inr (.inr e)) g1
    ·rfl
   ·exact OK tags _ _ _ _ _ e2.symm _ (iF _ (iT.2 rfl))
  ·rw [fM g2] at e2
   have:=e2.trans (KD tags _)
   cases this
end Go.Proofs.YtccefppppedgkaaGreat
