/- Joined: XTObjP, XTCloneR, XTFifo, XTCallD, XTReadCP, XTNew, XTPool. -/
import Derived.Test.YtccefppppedgkaaGreatKHr
import Derived.Test.YtccefppppedgkaaGreatKHp
import Derived.Test.YtccefppppedgkaaGreatKHn
set_option linter.unusedVariables false
set_option linter.unusedSimpArgs false
set_option linter.unnecessarySimpa false
set_option maxRecDepth 100000
set_option maxHeartbeats 64000000
namespace Go.Proofs.YtccefppppedgkaaGreat
open Go.RowKit
section
variable {cap:Int}
theorem IM {l:List AY} (h : ∀x∈l,chanOK cap x=true) {n:Nat} {y:AY} (hy:chanOK cap y=true) : ∀x∈l.set n y,chanOK cap x=true:=fun x hx=>by
 rcases iX hx with hx|rfl
 ·exact h x hx
 ·exact hy
theorem UO {l:List AH} (h : ∀w∈l,waitOK w=true) {n:Nat} {y:AH} (hy:waitOK y=true) : ∀w∈l.set n y,waitOK w=true:=fun x hx=>by
 rcases iX hx with hx|rfl
 ·exact h x hx
 ·exact hy
theorem AjI:waitOK w0=true:=by decide
theorem JG {l:List AH} (h : ∀w∈l,waitOK w=true) (t:Int) : ∀w∈cutW l t,waitOK w=true:=by
 unfold cutW;split
 ·exact UO h AjI
 ·exact h
theorem i9_ (S:List Int) : ∀ {l:List AH},(∀w∈l,waitOK w=true) → ∀w∈S.foldl cutW l,waitOK w=true:=by
 induction S with
 |nil=>intro l h;exact h
 |cons a S ih=>intro l h;exact ih (JG h a)
variable {t:Int}
theorem LG {d:List Rst} (h : ∀r∈d,goodR r=true) {r:Rst} (hr:goodR r=true) : ∀x∈GG d t r,goodR x=true:=fun x hx=>by
 rcases AaT hx with hx|rfl
 ·exact h x hx
 ·exact hr
theorem SM (S:List HK) : ∀ {d:List Rst},(∀r∈d,goodR r=true)→(∀x∈S,goodR x.result=true) → ∀r∈tellL d S,goodR r=true:=by
 induction S with
 |nil=>intro d h _;exact h
 |cons a S ih=>intro d h hs;exact ih (LG h (hs a (by simp))) fun x hx=>hs x (by simp [hx])
theorem n_v:(0:Int)≤0∧(0:Int)≤4294967295:=by decide
theorem m7_:(0:Int)≤0∧(0:Int)<256:=by decide
theorem BaH:(0:Int)≤9∧(9:Int)<256:=by decide
theorem BaG:(0:Int)≤10∧(10:Int)<256:=by decide
theorem n_k:(0:Int)≤0∧(0:Int)<16:=by decide
theorem n_t : ∀x∈([]:List HK),goodR x.result=true:=fun _ h=>by cases h
theorem p_ {l:List AH} (h : ∀w∈l,waitOK w=true) (t:Int) {w:AH} (hw:waitOK ⟨true,w.ticket,w.seq,w.cases⟩=true) : ∀x∈putW l t w,waitOK x=true:=by
 unfold putW;split
 ·exact UO h hw
 ·exact h
structure GOk (cap:Int) (g:DG):Prop where
 c:chanOK cap g.c=true
 l : ∀w∈g.l,waitOK w=true
 t : ∀x∈g.told,goodR x.result=true
 v:0≤g.r.value∧g.r.value≤4294967295
 e:0≤g.r.code∧g.r.code<256
theorem r5_ {l:List Int} (h : ∀y∈l,0≤y∧y≤4294967295):0≤l.headD 0∧l.headD 0≤4294967295:=by
 cases l with
 |nil=>exact ⟨gL _,by decide⟩
 |cons a l=>exact h a (by simp)
theorem AkT {c:AY} {x:Int} {l:List AH} {d v:Int} (hc:chanOK cap c=true) (hl : ∀w∈l,waitOK w=true) (hv:0≤v∧v≤4294967295):GOk cap (doG c x l d v):=by
 have hc0:=hc
 obtain ⟨h1,h2,⟨h3,h4⟩,h5⟩:=BE.1 hc
 have told : ∀ {f:FS} {t m:Nat} {w:AH} {k:BF} {z:Int},f.th=t→f.wh=m→l[t]? = some w→w.cases[m]? = some k→(0≤z∧z≤4294967295) → ∀y∈[(⟨f.th,⟨(thW l f).seq,f.wh,0,z⟩⟩:HK)],goodR y.result=true:=fun {f t m w k z} e1 e2 hw hk hz y hy=>by
  rw [iN] at hy
  subst hy
  have hb:=FL (hl w (fO hw))
  have hm:=get_lt hk
  have:=hb.n
  unfold thW
  rw [EN,e1,gE,BK hw,e2]
  dsimp only
  refine ⟨by omega,by omega,by omega,hb.s⟩
 unfold doG
 split
 ·rename_i hr
  unfold UX at hr
  simp only [gG,lS,gM] at hr
  split
  ·rename_i hd
   split
   ·exact ⟨hc,hl,n_t,n_v,BaH⟩
   ·rename_i hcl
    unfold h2_
    split
    ·rename_i hf
     obtain ⟨t,m,w,k,e1,e2,hw,ho,hk,_,_⟩:=OI hf
     refine ⟨hc,?_,told e1 e2 hw hk hv,n_v,m7_⟩
     exact JG hl _
    ·rename_i hf
     refine ⟨?_,hl,n_t,n_v,m7_⟩
     rw [BE]
     unfold chB
     dsimp only
     rw [fR hd] at hr
     simp only [lS,gM] at hr
     obtain ⟨hu,(hr|hr)|hr⟩:=hr
     ·exact absurd hr hcl
     ·exact absurd hr hf
     ·refine ⟨h1,h2,⟨by rw [fP];simp only [gF,gI];omega,fun y hy=>?_⟩,.inl hu⟩
      rcases gQ.1 hy with hy|hy
      ·exact h4 y hy
      ·rw [iN] at hy;subst hy;exact hv
  ·split
   ·unfold g2_
    split
    ·rename_i hf
     obtain ⟨t,m,w,k,e1,e2,hw,ho,hk,_,_⟩:=OI hf
     have hb:=FL (hl w (fO hw))
     have hz:0≤thV l (fir l 1 x)∧thV l (fir l 1 x)≤4294967295:=by
      unfold thV thW
      rw [e1,gE,BK hw,e2,gE,BK hk]
      exact (FD.1 (hb.k k (fO hk))).2.2
     have hall : ∀y∈c.buf++[thV l (fir l 1 x)],0≤y∧y≤4294967295:=fun y hy=>by
      rcases gQ.1 hy with hy|hy
      ·exact h4 y hy
      ·rw [iN] at hy;subst hy;exact hz
     refine ⟨?_,JG hl _,told e1 e2 hw hk n_v,r5_ hall,m7_⟩
     rw [BE]
     unfold chB
     exact ⟨h1,h2,⟨by dsimp only;rw [gJ,fP];simp only [gF,gI];omega,fun y hy=>hall y (iF hy)⟩,h5⟩
    ·refine ⟨?_,hl,n_t,r5_ h4,m7_⟩
     rw [BE]
     unfold chB
     exact ⟨h1,h2,⟨by dsimp only;rw [gJ];omega,fun y hy=>h4 y (iF hy)⟩,h5⟩
   ·exact ⟨hc,hl,n_t,n_v,BaH⟩
 ·exact ⟨hc,hl,n_t,n_v,BaG⟩
theorem AtR {l:List AH} {h:Int} {z:Int} (hz:z∈onS l h) : ∃(n:Nat) (w:AH),z=n∧l[n]? = some w∧w.on=true∧0≤ixF (isH h) w.cases:=by
 have hm:=EO.1 hz
 have : ∀k,k≤l.length→z∈onK l h k → ∃(n:Nat) (w:AH),z=n∧l[n]? = some w∧w.on=true∧0≤ixF (isH h) w.cases:=by
  intro k
  induction k with
  |zero=>intro _ hm;cases hm
  | succ k ih =>
   intro hk hm
   obtain ⟨a,ha⟩ : ∃a,l[k]? = some a:=⟨_,ZgE (by omega)⟩
   rw [f_ ha] at hm
   split at hm
   ·rename_i hc
    simp only [gG,gM] at hc
    rcases gQ.1 hm with hm|hm
    ·exact ih (by omega) hm
    ·rw [iN] at hm
     exact ⟨k,a,hm,ha,hc.1,hc.2⟩
   ·exact ih (by omega) hm
 exact this _ (fV _) hm
theorem AiK {c:AY} {x:Int} {l:List AH} (hc:chanOK cap c=true) (hl : ∀w∈l,waitOK w=true):chanOK cap (shutG c x l).c=true∧(∀w∈(shutG c x l).l,waitOK w=true)∧(∀y∈(shutG c x l).told,goodR y.result=true)∧0≤(shutG c x l).e∧(shutG c x l).e<256:=by
 obtain ⟨h1,h2,⟨h3,h4⟩,h5⟩:=BE.1 hc
 unfold shutG
 split
 ·refine ⟨?_,i9_ _ hl,fun y hy=>?_,gL _,(by show (0:Int)<256;decide)⟩
  ·rw [BE];exact ⟨h1,h2,⟨h3,h4⟩,.inl rfl⟩
  ·obtain ⟨z,hz,rfl⟩:=iW.1 hy
   obtain ⟨n,w,rfl,hw,_,hi⟩:=AtR hz
   have hb:=FL (hl w (fO hw))
   have h6:=(c7_ (isH x) w.cases).2
   have:=hb.n
   unfold shT
   rw [EN,gE,BK hw]
   dsimp only
   exact ⟨by decide,by decide,by omega,hb.s⟩
 ·exact ⟨hc,hl,fun _ h=>absurd h (by simp),(by show (0:Int)≤9;decide),(by show (9:Int)<256;decide)⟩
structure Fh (c:AB) (h:AM):Prop where
 tk:0≤h.ticket∧h.ticket≤4294967295
 ch : ∀x∈h.chans,chanOK c.cap x=true
 w : ∀w∈h.waits,waitOK w=true
 d : ∀r∈h.done,goodR r=true
structure Fru (r:Rst):Prop where
 v:0≤r.value∧r.value≤4294967295
 e:0≤r.code∧r.code<256
 k:0≤r.cas∧r.cas<16
theorem Fru.code {e:Int} (h:0≤e∧e<256):Fru ⟨0,0,e,0⟩:=⟨n_v,h,n_k⟩
variable {c:AB}
theorem z6_ (h:AZ c=true) (k:c.kind=3):1≤c.gens∧c.gens≤4095∧(c.start.length:Int)≤c.chans ∧ ∀n∈c.start,0≤n∧n≤c.cap:=by
 unfold AZ at h
 simp only [gG] at h
 have o:=h.2
 unfold ownC at o
 rw [fT (by omega),fR k] at o
 simp only [gG,BX,gM,Bool.not_eq_true',List.any_eq_false,Bool.not_eq_false'] at o
 refine ⟨o.1.1.2.1,o.1.1.2.2,o.1.2,fun n hn=>?_⟩
 have:=o.2 n hn
 simpa [inI] using this
variable {h:AM}
theorem z3_ {t n:Int} {q:AU} (k:AZ c=true) (k3:c.kind=3) (b:Fh c h) (hq:BR q=true) (hn:0≤n∧n≤1048575):Fh c (callH c h t n q).1∧Fru (callH c h t n q).2:=by
 have sh:=AJ k
 obtain ⟨s1,s2,s3,s4⟩:=sh.h3 k3
 obtain ⟨q1,q2,q3,q4,q5⟩:=MH.1 hq
 have dec : ∀e:Int,e=0∨e=1∨e=6∨e=7∨e=8∨e=10∨e=12∨e=13∨e=14→Fru ⟨0,0,e,0⟩:=fun e he=>Fru.code (by omega)
 unfold callH
 split
 ·unfold openH;split
  ·exact ⟨b,dec _ (by simp)⟩
  ·split
   ·rename_i hcap h0
    obtain ⟨hm,hp⟩:=s1_ (d:=(default:AY)) h0
    have hg:=(BE.1 (b.ch _ hm)).1
    dsimp only [chA]
    generalize h.chans.getD (ixF (okO c) h.chans).toNat default=a at hg hp ⊢
    unfold okO at hp
    simp only [gG,gM] at hp
    have hp2:=hp.2
    refine ⟨⟨b.tk,?_,b.w,b.d⟩,⟨?_,m7_,n_k⟩⟩
    ·refine IM b.ch ?_
     rw [BE]
     exact ⟨⟨by dsimp only;omega,by dsimp only;omega⟩,⟨by dsimp only;omega,by dsimp only;omega⟩,⟨by dsimp only [List.length_nil];omega,fun y hy=>by cases hy⟩,.inl rfl⟩
    ·dsimp only
     unfold hdl
     split<;>omega
   ·refine ⟨b,?_⟩
    split
    ·exact dec _ (by simp)
    ·exact dec _ (by simp)
 ·split
  ·unfold freeH;split
   ·rename_i hf
    split
    ·refine ⟨⟨b.tk,?_,b.w,b.d⟩,dec _ (by simp)⟩
     refine IM b.ch ?_
     have hg:=(BE.1 (b.ch _ (QR hf))).1
     rw [BE]
     exact ⟨hg,⟨by dsimp only;omega,by dsimp only;omega⟩,⟨by dsimp only [List.length_nil];omega,fun y hy=>by cases hy⟩,.inr ⟨rfl,rfl⟩⟩
    ·exact ⟨b,dec _ (by simp)⟩
   ·exact ⟨b,dec _ (by simp)⟩
  ·split
   ·unfold chooseH;split
    ·refine ⟨b,dec _ ?_⟩
     unfold casesE
     repeat' split
     all_goals simp
    ·rename_i hE
     obtain ⟨h3,h3', -,h5⟩:=a2_ (Decidable.not_not.1 hE)
     split
     ·rename_i h0
      obtain ⟨hm, -⟩:=s1_ (d:=(default:BF)) h0
      have hf:=h5 _ hm
      have hcs:=q5 _ hm
      have hlt:=(c7_ (LO h) q.cases).2
      generalize q.cases.getD (ixF (LO h) q.cases).toNat default=z at hf hcs ⊢
      have g:=AkT (x:=z.handle) (d:=z.dir) (b.ch _ (QR hf)) b.w (FD.1 hcs).2.2
      unfold oneH XW
      exact ⟨⟨b.tk,IM b.ch g.c,g.l,SM _ b.d g.t⟩,⟨g.v,g.e,⟨h0,by dsimp only;omega⟩⟩⟩
     ·split
      ·exact ⟨b,dec _ (by simp)⟩
      ·split
       ·exact ⟨b,dec _ (by simp)⟩
       ·rename_i htk
        split
        ·refine ⟨⟨⟨by have:=b.tk.1;dsimp only;omega,by dsimp only;omega⟩,b.ch,?_,b.d⟩,dec _ (by simp)⟩
         refine p_ b.w _ ?_
         rw [UN]
         exact .inl ⟨rfl,b.tk,hn,⟨h3',h3⟩,q5⟩
        ·exact ⟨b,dec _ (by simp)⟩
   ·split
    ·unfold closeH;split
     ·rename_i hf
      obtain ⟨g1,g2,g3,g4⟩:=AiK (x:=q.arg) (b.ch _ (QR hf)) b.w
      exact ⟨⟨b.tk,IM b.ch g1,g2,SM _ b.d g3⟩,Fru.code g4⟩
     ·exact ⟨b,dec _ (by simp)⟩
    ·split
     ·refine ⟨b,?_⟩
      unfold lookH
      split
      ·rename_i hf
       obtain ⟨h1,h2,⟨h3,h4⟩,h5⟩:=BE.1 (b.ch _ (QR hf))
       split
       ·exact ⟨⟨by dsimp only;omega,by dsimp only;omega⟩,m7_,n_k⟩
       ·exact ⟨⟨by dsimp only;omega,by dsimp only;omega⟩,m7_,n_k⟩
      ·exact dec _ (by simp)
     ·split
      ·unfold cancelH;split
       ·rename_i hc
        unfold m2_ JJ at hc
        simp only [gG,gM] at hc
        obtain ⟨⟨⟨c1,c2,c3⟩,c4⟩,c5⟩:=hc
        have hs:=(FL (b.w _ (b9_ (d:=default) (l:=h.waits) (n:=q.arg.toNat) (by omega)))).s
        rw [c5] at hs
        refine ⟨⟨b.tk,b.ch,JG b.w _,LG b.d ?_⟩,dec _ (by simp)⟩
        rw [EN]
        exact ⟨⟨by dsimp only;decide,by dsimp only;decide⟩,⟨by dsimp only;decide,by dsimp only;decide⟩,⟨by dsimp only;decide,by dsimp only;decide⟩,hs⟩
       ·exact ⟨b,dec _ (by simp)⟩
      ·exact ⟨b,dec _ (by simp)⟩
theorem PT {t n:Int} {q:AU} (f:DZ c h=true) (hq:BR q=true) (hn:0≤n∧n≤1048575):DZ c (applyH c h t n q)=true:=by
 obtain ⟨k,k3,f1,f2,f3,⟨f4,f5⟩,f6,f7⟩:=DM.1 f
 obtain ⟨b,r⟩:=z3_ (t:=t) k k3 ⟨f1,f6,f7,f5⟩ hq hn
 have hl:=LD c h t n q
 have hw:=ZV c h t n q
 refine DM.2 ⟨k,k3,b.tk,by rw [hl.1];exact f2,by rw [hw];exact f3,⟨by rw [hl.2];exact f4,?_⟩,b.ch,b.w⟩
 refine LG b.d ?_
 rw [EN]
 exact ⟨⟨r.v.1,by have:=r.v.2;dsimp only;omega⟩,r.e,r.k,hn⟩
theorem b4_ (k:AZ c=true) (k3:c.kind=3):DZ c (startH c)=true:=by
 have sh:=AJ k
 obtain ⟨s1,s2,s3,s4⟩:=sh.h3 k3
 obtain ⟨g1,g2,g3,g4⟩:=z6_ k k3
 have hp:((plN c:Nat):Int)=c.chans:=by unfold plN;omega
 have ht:((thN c:Nat):Int)=c.threads:=by have:=sh.t0;have:=sh.t1;unfold thN;omega
 have ln:=PE c
 refine DM.2 ⟨k,k3,n_v,by rw [ln.c];exact hp,by rw [ln.w];exact ht,⟨by rw [ln.d];exact ht,fun r hr=>?_⟩,fun x hx=>?_,fun w hw=>?_⟩
 ·rw [jD hr];decide
 ·change x∈stC c.start (plN c) (plN c) at hx
  unfold stC at hx
  obtain ⟨j, -,rfl⟩:=iW.1 hx
  rw [BE]
  split
  ·rename_i hj
   have:=g4 _ (b9_ (d:=(0:Int)) hj.2)
   exact ⟨⟨by dsimp only;decide,by dsimp only;decide⟩,this,⟨by dsimp only [List.length_nil];omega,fun y hy=>by cases hy⟩,.inl rfl⟩
  ·exact ⟨⟨by dsimp only;decide,by dsimp only;decide⟩,⟨by dsimp only;decide,by dsimp only;omega⟩,⟨by dsimp only [List.length_nil];decide,fun y hy=>by cases hy⟩,.inr ⟨rfl,rfl⟩⟩
 ·rw [jD hw];decide
theorem OL {l:List Int} (h:HF c l=true):DZ c (readH c l)=true∧putH c (readH c l)=l:=by
 have h0:=h
 unfold HF at h
 simp only [gG,gM] at h
 obtain ⟨⟨⟨k,k3⟩,hl⟩,hp⟩:=h
 unfold readH
 rw [fR h0]
 refine ⟨?_,hp⟩
 cases hf:DZ c (LN c l)
 ·unfold putH at hp
  rw [hf,fT (by simp)] at hp
  subst hp
  have sh:=AJ k
  obtain ⟨s1,s2,s3,s4⟩:=sh.h3 k3
  rw [NK k k3] at hl
  have h1:=sh.t0
  have h2:0≤c.chans*(1+c.cap):=jZ (by omega) (by omega)
  simp only [gI] at hl
  omega
 ·rfl
theorem OM {l:List Int} (h:FV c l=true):EB c (readX c l)=true∧putX c (readX c l)=l:=by
 have h0:=h
 unfold FV at h
 simp only [gG,gM] at h
 obtain ⟨⟨⟨k,k3⟩,hl⟩,hp⟩:=h
 unfold readX
 rw [fR h0]
 refine ⟨?_,hp⟩
 cases hf:EB c (KU c l)
 ·unfold putX at hp
  rw [hf,fT (by simp)] at hp
  subst hp
  have sh:=AJ k
  have:=sh.h1 k3
  have h1:=sh.t0
  rw [NL k k3] at hl
  simp only [gI] at hl
  omega
 ·rfl
theorem AbH (f:DZ c h=true):HF c (putH c h)=true∧readH c (putH c h)=h:=by
 have e:HF c (putH c h)=true:=by rw [d2_,f]
 exact ⟨e,by unfold readH;rw [fR e,f8_ f]⟩
theorem AbI {x:CO} (f:EB c x=true):FV c (putX c x)=true∧readX c (putX c x)=x:=by
 have e:FV c (putX c x)=true:=by rw [d3_,f]
 exact ⟨e,by unfold readX;rw [fR e,f9_ f]⟩
theorem PU (f:DZ c h=true):OO h∧h.chans.length≤8∧h.waits.length≤64∧h.done.length≤64:=by
 obtain ⟨k,k3,f1,f2,f3,⟨f4,f5⟩,f6,f7⟩:=DM.1 f
 have sh:=AJ k
 obtain ⟨s1,s2,s3,s4⟩:=sh.h3 k3
 have h1:=sh.t1
 refine ⟨⟨by omega,fun x hx=>?_,⟨by omega,fun w hw=>?_⟩,by omega⟩,by omega,by omega,by omega⟩
 ·obtain ⟨-,g2,⟨g3, -⟩, -⟩:=BE.1 (f6 x hx);omega
 ·have:=(FL (f7 w hw)).n;omega
theorem AaC (f:DZ c h=true) {q:AU} (hq:sRq q) (hl:q.cases.length≤5864062014805):okQ h q:=by
 obtain ⟨k,k3,f1,f2,f3,⟨f4,f5⟩,f6,f7⟩:=DM.1 f
 refine ⟨hq.2.1,hq.2.2.1,hq.2.2.2.2.2,hl,by omega,fun x hx=>?_⟩
 have:=(BE.1 (f6 x hx)).1
 unfold sI;omega
end
section
attribute [local irreducible] AL AW RG Fin C Cd Cio AI AF AO
theorem clone_R (l:List Rst) (h:l.length≤4398046511104):Cd Tryz.prog 280 [.ln (l.map tR)] (.sl 0 0 l.length) [.row 0 53 4 (l.map tR)]:=by
 refine ZEN Tryz.func280 Tryz.ntmps280 ?_
 repeat' (first|(refine ZAL ?_;first|(refine kL 3049 rfl ?_;first|refine EF rfl rfl 95 _ _ rfl ud95 rfl (fun b hb=>?_))|refine uA ?_)|refine uC ?_|refine kcc rfl (fun hc=>?_) (fun hc=>?_)|fail)
 ·have hl:l=[]:=by simpa using hb hc
  subst hl
  refine Fin.wk (Wk.own 2 rfl 53 4 (.push rfl rfl)) ?_
  exact Ab Tryz.results280
 ·exact Ab Tryz.results280
theorem AeC (cap:Int) (l:List Int) (d:List Rst) (hl:l.length≤17592186044416) (hd:d.length≤4398046511104) :
  Cd Tryz.prog 282 [.agg [i64 cap,.ln (l.map tI),.ln (d.map tR)]] (.agg [i64 cap,.sl 0 0 l.length,.sl 1 0 d.length]) [.row 0 3 1 (l.map tI),.row 0 53 4 (d.map tR)]:=by
 refine ZEN Tryz.func282 Tryz.ntmps282 ?_
 repeat' (first|refine uA ?_|(refine ZRG ?_;first|(refine kR 2634 rfl ?_;first|(refine uQ (AR _ ?zq0) 2 ?_;(case zq0=>assumption)))|(refine kR 8970 rfl ?_;first|(refine uQ (clone_R _ ?zq0) 3 ?_;(case zq0=>assumption)))|refine uR ?_)|refine uC ?_|refine AW.drawU (id:=1) mixed 4 qR ?_|fail)
 exact Fin.q Tryz.results282 (.cons (.agg rfl rfl ud125 rfl inf125 (us:=[_,_,_]) rfl rfl) .nil) [2,3]
theorem AaA (cap t:Int):Cd Tryz.prog 158 [i64 cap,i64 t] (.agg [i64 cap,.nl,.sl 0 0 (max (min t 64) 0).toNat]) [.row 0 53 4 ((List.replicate (max (min t 64) 0).toNat (⟨0,0,0,0⟩:Rst)).map tR)]:=by
 refine ZEN Tryz.func158 Tryz.ntmps158 ?_
 repeat' (first|(refine ZAL ?_;first|(refine kL 3056 rfl ?_;first|refine XD rfl rfl 95 _ _ rfl ud95 inf53 rfl (zs:=[(.v (.int .i64 0)),(.v (.int .i64 0)),(.v (.int .i64 0)),(.v (.int .i64 0))]) rfl rfl rfl (max (min t 64) 0).toNat (by omega) (by omega) qB qB (by exact rep_map (f:=tR) (x:=⟨_,_,_,_⟩)) (.push qL qN) ?_)|refine uA ?_)|refine uC ?_|fail)
 exact Fin.q Tryz.results158 (.cons (.agg rfl rfl ud125 rfl inf125 (us:=[_,_,_]) rfl rfl) .nil) [1]
theorem AlD (cap:Int) (l:List Int) (d:List Rst) (k1 k2:Nat) (t s k v:Int) :
  Cio Tryz.prog 283 [.agg [i64 cap,.sl 0 k1 l.length,.sl 1 k2 d.length],i64 t,i64 s,i64 k,i64 v] [.row k1 3 1 (l.map tI),.row k2 53 4 (d.map tR)]
   (.agg [i64 cap,.sl 0 k1 l.length,.sl 1 k2 d.length]) [.row k1 3 1 (l.map tI),.row k2 53 4 ((JN d t ⟨s,0,k,v⟩).map tR)]:=by
 by_cases h0:0≤t
 ·by_cases h1:t<d.length
  ·rw [h3_ h0 h1]
   obtain ⟨i,rfl⟩:=Int.eq_ofNat_of_zero_le h0
   rw [gE]
   have h2:i<d.length:=by omega
   obtain ⟨x,hx⟩ : ∃x,d[i]? = some x:=⟨_,ZgE h2⟩
   refine ZEN Tryz.func283 Tryz.ntmps283 ?_
   repeat' (first|refine A0 ?_|fail)
   all_goals exact E9 Tryz.results283
  ·rw [RH (fun h=>h1 h.2)]
   refine ZEN Tryz.func283 Tryz.ntmps283 ?_
   repeat' (first|refine A0 ?_|fail)
   all_goals exact E9 Tryz.results283
 ·rw [RH (fun h=>h0 h.1)]
  refine ZEN Tryz.func283 Tryz.ntmps283 ?_
  repeat' (first|refine A0 ?_|fail)
  all_goals exact E9 Tryz.results283
theorem AiY (cap:Int) (l:List Int) (d:List Rst) (k1 k2:Nat) (t s k v:Int) {n m:Nat} (hn:n=l.length) (hm:m=d.length) :
  Cio Tryz.prog 283 [.agg [i64 cap,.sl 0 k1 n,.sl 1 k2 m],i64 t,i64 s,i64 k,i64 v] [.row k1 3 1 (l.map tI),.row k2 53 4 (d.map tR)]
   (.agg [i64 cap,.sl 0 k1 n,.sl 1 k2 m]) [.row k1 3 1 (l.map tI),.row k2 53 4 ((JN d t ⟨s,0,k,v⟩).map tR)]:=by
 subst hn hm
 exact AlD cap l d k1 k2 t s k v
def GL (lifo:Bool) (cap:Int) (l:List Int) (d:List Rst) (t s k v:Int):List Int × List Rst :=
 if k=8 then if (l.length:Int)≥cap then (l,JN d t ⟨s,0,10,0⟩) else (l++[v],JN d t ⟨s,0,0,0⟩)
 else if k=9 then (if l.length=0 then (l,JN d t ⟨s,0,10,0⟩) else if lifo then (l.take (l.length-1),JN d t ⟨s,0,0,l.getD (l.length-1) 0⟩) else (l.drop 1,JN d t ⟨s,0,0,l.getD 0 0⟩))
 else if k=5 then (l,JN d t ⟨s,0,0,l.length⟩)
 else if k=6 then (l,JN d t ⟨s,0,0,cap⟩)
 else (l,JN d t ⟨s,0,1,0⟩)
theorem b1_ (cap:Int) (l:List Int) (d:List Rst) (t s k ar v:Int) (hl:l.length≤17592186044400) (hd:d.length≤4398046511104) :
  Cd Tryz.prog 270 [.agg [i64 cap,.ln (l.map tI),.ln (d.map tR)],i64 t,i64 s,.agg [i64 k,i64 ar,i64 v,.any,.any]]
   (.agg [i64 cap,.sl 0 0 (GL false cap l d t s k v).1.length,.sl 1 0 d.length]) [.row 0 3 1 ((GL false cap l d t s k v).1.map tI),.row 0 53 4 ((GL false cap l d t s k v).2.map tR)]:=by
 refine ZEN Tryz.func270 Tryz.ntmps270 ?_
 repeat' (first|(refine ZAL ?_;first|(refine kL 9034 rfl ?_;first|(refine uK (AeC _ _ _ ?zq0 ?zq1) ?_;(case zq0=>omega);(case zq1=>omega)))|(refine kL 9066 rfl ?_;first|(refine uI [3,4] (AiY _ _ _ _ _ _ _ _ _ ?zq0 ?zq1) ?_;(case zq0=>simp);(case zq1=>simp))|(refine uI [6,4] (AiY _ _ _ _ _ _ _ _ _ ?zq0 ?zq1) ?_;(case zq0=>simp);(case zq1=>simp)))|refine Dr ?_|(refine kL 2634 rfl ?_;first|(refine uK (AR (l.drop 1) ?zq0) ?_;(case zq0=>simp;omega)))|refine uA ?_)|refine uC ?_|refine kcp rfl (fun hc=>?_) (fun hc=>?_)|fail)
 ·(refine Bv Tryz.results270 ?_ ?_ ?_<;>repeat' (first|exact ZE1|refine ZE2 ?_ ?_|refine ZE3 ?_|exact ZE4|fail))
  all_goals simp [GL,EX, *]
 ·(refine Bv Tryz.results270 ?_ ?_ ?_<;>repeat' (first|exact ZE1|refine ZE2 ?_ ?_|refine ZE3 ?_|exact ZE4|fail))
  all_goals simp [GL,EX, *]
 ·have hn:l=[]:=iA (by omega)
  subst hn
  (refine Bv Tryz.results270 ?_ ?_ ?_<;>repeat' (first|exact ZE1|refine ZE2 ?_ ?_|refine ZE3 ?_|exact ZE4|fail))
  all_goals simp [GL,EX, *]
 ·have hn:l≠[]:=by rintro rfl;simp at hc
  (refine Fin.mkv (rs:=_) Tryz.results270 (.cons (.agg rfl rfl ud125 rfl inf125 (us:=[_,_,_]) rfl rfl) .nil) [6,4] (by decide) rfl ?_ ?_ ?_<;>repeat' (first|exact ZE1|refine ZE2 ?_ ?_|refine ZE3 ?_|exact ZE4|fail))
  all_goals simp [GL,EX,List.map_tail, *]
 ·(refine Bv Tryz.results270 ?_ ?_ ?_<;>repeat' (first|exact ZE1|refine ZE2 ?_ ?_|refine ZE3 ?_|exact ZE4|fail))
  all_goals simp [GL,EX, *]
 ·(refine Bv Tryz.results270 ?_ ?_ ?_<;>repeat' (first|exact ZE1|refine ZE2 ?_ ?_|refine ZE3 ?_|exact ZE4|fail))
  all_goals simp [GL,EX, *]
 ·(refine Bv Tryz.results270 ?_ ?_ ?_<;>repeat' (first|exact ZE1|refine ZE2 ?_ ?_|refine ZE3 ?_|exact ZE4|fail))
  all_goals simp [GL,EX, *]
theorem AmP (s x:Nat) (h:x%2^(s+1)<2^s):x ||| 2^s=x+2^s:=by
 have e:x=2^(s+1)*(x/2^(s+1))+x%2^(s+1):=(Nat.div_add_mod _ _).symm
 have h1:(2^(s+1)*(x/2^(s+1)))%2^(s+1)=0:=Nat.mul_mod_right _ _
 generalize 2^(s+1)*(x/2^(s+1))=H at *
 generalize x%2^(s+1)=lo at *
 have h2:2^(s+1)=2*2^s:=by rw [Nat.pow_succ,lU]
 have a1:H ||| lo=H+lo:=nat_join (s+1) H lo h1 (by omega)
 have a2:2^s ||| lo=2^s+lo:=nat_join s _ lo (Nat.mod_self _) h
 have a3:H ||| (2^s+lo)=H+(2^s+lo):=nat_join (s+1) H _ h1 (by omega)
 rw [e, ←a1,Nat.or_assoc,Nat.or_comm lo,a2,a3,a1];omega
theorem AtU (s:Nat) {a m M:Int} (hm:(2:Int)^s=m) (hM:m+m=M) (h0:0≤a) (hA:a<18446744073709551616) (hB:m<18446744073709551616) (h:a%M<m):bits .or .u64 a m=a+m:=by
 subst hM
 obtain ⟨x,rfl⟩ : ∃x:Nat,a=x:=⟨a.toNat,by omega⟩
 have e:m=((2^s:Nat):Int):=by rw [←hm];simp
 subst e
 rw [u64_or _ _ h0 hA (Int.natCast_nonneg _) hB,gE,gE,AmP s x]
 ·rw [Int.natCast_add]
 ·have h2:2^(s+1)=2*2^s:=by rw [Nat.pow_succ,lU]
  rw [h2]
  have:((x%(2*2^s):Nat):Int)<((2^s:Nat):Int):=by
   rw [Int.natCast_emod]
   have e3:((2*2^s:Nat):Int)=((2^s:Nat):Int)+((2^s:Nat):Int):=by omega
   rw [e3];exact h
  exact_mod_cast this
def SN (q:AU):Int:=q.kind+256*q.cases.length+65536*q.arg+4294967296*q.value+4096*JK q.dflt
def HM (q:AU) (ph:Int):List Int:=SN q::(CW (q.cases.map wordK) 3++[ph])
theorem AkK {q:AU} (hd:q.dflt=false) (ph:Int):HM q ph=KX q ph:=by unfold HM SN KX;rw [hd];simp [JK]
theorem AhG (q:AU) (ph:Int) (hq:BR q=true) (hd:q.dflt=true) (hp:0≤ph∧ph≤4294967295):Cd Tryz.prog 182 [aRq q,i64 ph] (.t (.lst ((HM q ph).map tU))) []:=by
 obtain ⟨g1,g2,g3,g4,g5⟩:=MH.1 hq
 have c1:=GS q (by omega)
 rw [hq] at c1
 have c2:=FX ph 32 4294967296 (by decide) (by decide)
 rw [show fitI ph 4294967296=true from fW (by omega)] at c2
 have h1:(q.cases.map tCs).length=q.cases.length:=fN _
 unfold HM SN
 rw [x9_ (by simpa using g4),fN]
 obtain ⟨kd,ar,vl,df,l⟩:=q
 dsimp only at *
 subst hd
 rw [show JK true=1 from rfl]
 generalize hH:kd+256*(l.length:Int)+65536*ar+4294967296*vl+4096*1=hd0
 have hH2:kd+((l.map tCs).length:Int)*256+ar*65536+vl*4294967296+4096=hd0:=by omega
 refine ZEN Tryz.func182 Tryz.ntmps182 ?_
 repeat' (first|(refine ZAL ?_;first|refine Ae ?_|(refine kL 1481 rfl ?_;first|refine A_shl rfl rfl 46 159 _ _ rfl rfl rfl (by decide) (shl_lit (m:=256) rfl bU) ?_|refine A_bits rfl rfl .or 46 46 _ _ rfl rfl rfl rfl (or_sum 8 (M:=256) rfl (by omega) (by omega) (by omega) (by omega) (by omega) (by omega)) ?_|refine A_bits rfl rfl .or 46 46 _ _ rfl rfl rfl rfl (or_sum' 8 (M:=256) rfl (by omega) (by omega) (by omega) (by omega) (by omega) (by omega)) ?_|refine A_bits rfl rfl .or 46 46 _ _ rfl rfl rfl rfl (or_sum 16 (M:=65536) rfl (by omega) (by omega) (by omega) (by omega) (by omega) (by omega)) ?_|refine A_bits rfl rfl .or 46 46 _ _ rfl rfl rfl rfl (or_sum' 16 (M:=65536) rfl (by omega) (by omega) (by omega) (by omega) (by omega) (by omega)) ?_|refine A_bits rfl rfl .or 46 46 _ _ rfl rfl rfl rfl (or_sum 32 (M:=4294967296) rfl (by omega) (by omega) (by omega) (by omega) (by omega) (by omega)) ?_|refine A_bits rfl rfl .or 46 46 _ _ rfl rfl rfl rfl (or_sum' 32 (M:=4294967296) rfl (by omega) (by omega) (by omega) (by omega) (by omega) (by omega)) ?_|refine A_shl rfl rfl 46 159 _ _ rfl rfl rfl (by decide) (shl_lit (m:=65536) rfl bU) ?_|refine A_shl rfl rfl 46 159 _ _ rfl rfl rfl (by decide) (shl_lit (m:=4294967296) rfl bU) ?_|refine A_bits rfl rfl .or 46 46 _ _ rfl rfl rfl rfl (AtU 12 (m:=4096) (M:=8192) rfl rfl (by omega) (by omega) (by omega) (by omega)) ?_|refine A_shl rfl rfl 46 159 _ _ rfl rfl rfl dL rfl ?_|refine A_bits rfl rfl .or 46 46 _ _ rfl rfl rfl rfl rfl ?_)|refine Bs ?_|refine uA ?_|refine uK (c1) ?_|refine uK (c2) ?_)|refine uC ?_|refine uS 12 (fun hb=>?_) (fun hb=>?_)|refine ZK2 (fun hc=>?_) (fun hc=>?_)|fail)
 all_goals try exact ZE5
 refine AW.loopP (fun (i:Nat)=>i≤l.length) (fun (i:Nat)=>(pu (pu (pu (pu (pu (fun _=>.any) 1 (i64 ph)) 6 (.sl 1 i (1+i))) 43 (.ln (l.map tCs))) 44 (i64 (l.map tCs).length)) 45 (i64 i))) (fun (i:Nat)=>[.box 32 [i64 kd,i64 ar,i64 vl,bo true,.ln (l.map tCs)],.row i 46 1 ((FB hd0 l i).map tU)]) (fun (i:Nat)=>l.length-i) (0) ?_ ?_ ?_
 ·exact fX _
 ·rw [show FB hd0 l 0=[hd0] from rfl, ←hH2]
  exact Wk.cq 2
 ·intro i h2
  have hL:(FB hd0 l i).length=1+i:=by simp [FB];omega
  by_cases hi:i<l.length
  ·obtain ⟨a,ha⟩ : ∃a,l[i]? = some a:=⟨_,ZgE hi⟩
   have hk:=FD.1 (g5 a (fO ha))
   have hw:wordK a=a.dir+a.handle*256+a.value*4294967296:=by unfold wordK;omega
   have hs:FB hd0 l (i+1)=FB hd0 l i++[a.dir+a.handle*256+a.value*4294967296]:=by unfold FB;rw [iB,ha, ←hw];simp
   repeat' (first|refine G4 ?_|refine uS 12 (fun hb=>?_) (fun hb=>?_)|refine ZK2 (fun hc=>?_) (fun hc=>?_)|fail)
   all_goals try exact ZE5
   refine ⟨i+1,by omega,by omega,?_⟩
   rw [hs]
   exact Wk.cq 2
  ·obtain rfl:i=l.length:=by omega
   repeat' (first|(refine ZAL ?_;first|refine Ae ?_|refine Cy ?_|refine Av ?_|refine uA ?_)|refine uC ?_|refine uS 12 (fun hb=>?_) (fun hb=>?_)|refine ZK2 (fun hc=>?_) (fun hc=>?_)|fail)
   all_goals try exact ZE5
   refine AW.loopP (fun (j:Nat)=>l.length+j≤3) (fun (j:Nat)=>(pu (pu (fun _=>.any) 1 (i64 ph)) 6 (.sl 1 (l.length+j) (1+l.length+j)))) (fun (j:Nat)=>[.box 32 [i64 kd,i64 ar,i64 vl,bo true,.ln (l.map tCs)],.row (l.length+j) 46 1 ((FC hd0 l j).map tU)]) (fun (j:Nat)=>3-j) (0) ?_ ?_ ?_
   ·omega
   ·rw [show FC hd0 l 0=FB hd0 l l.length by simp [FB,FC]]
    exact Wk.cq 2
   ·intro j h3
    have hL2:(FC hd0 l j).length=1+l.length+j:=by simp [FC];omega
    by_cases hj:l.length+j<3
    ·have hs:FC hd0 l (j+1)=FC hd0 l j++[0]:=by unfold FC;rw [lV];simp
     repeat' (first|refine G4 ?_|refine uS 12 (fun hb=>?_) (fun hb=>?_)|refine ZK2 (fun hc=>?_) (fun hc=>?_)|fail)
     all_goals try exact ZE5
     refine ⟨j+1,by omega,by omega,?_⟩
     rw [hs]
     exact Wk.cq 2
    ·obtain rfl:j=3-l.length:=by omega
     repeat' (first|refine Ft ?_|refine uS 12 (fun hb=>?_) (fun hb=>?_)|refine ZK2 (fun hc=>?_) (fun hc=>?_)|fail)
     all_goals first|(exfalso;omega)|((first|exact A6 Tryz.results182|refine A5 Tryz.results182 ?_|refine A8 Tryz.results182 ?_ ?_ ?_<;>repeat' (first|exact ZE1|refine ZE2 ?_ ?_|refine ZE3 ?_|exact ZE4|fail)))
     all_goals first|rfl|(simp [FC];done)|skip
theorem AhF (q:AU) (ph:Int) (hl:q.cases.length≤1152921504606846976) (hq:BR q=false):Cd Tryz.prog 182 [aRq q,i64 ph] (.t (.lst ([].map tU))) []:=by
 have c1:=GS q hl
 rw [hq] at c1
 dsimp only [aRq] at *
 refine ZEN Tryz.func182 Tryz.ntmps182 ?_
 repeat' (first|(refine ZAL ?_;first|refine Ed ?_|refine Ae ?_|refine Cy ?_|refine Av ?_|refine uA ?_|refine uK (c1) ?_)|refine uC ?_|refine uS 12 (fun hb=>?_) (fun hb=>?_)|refine ZK2 (fun hc=>?_) (fun hc=>?_)|fail)
 all_goals exact A3 Tryz.results182
end
def DY (w:Int):BF:=⟨w%256,w/256%65536,w/4294967296⟩
def AtQ (w:Int):Bool:=decide ((w%256=1∨w%256=2)∧w/16777216%256=0)
def nR (h:Int):Nat:=(h/256%16).toNat
def reqR (h a b c:Int):AU:=⟨h%256,h/65536%65536,h/4294967296,decide (h/4096%2=1),([a,b,c].take (nR h)).map DY⟩
def KS (h a b c p:Int):Bool:=decide (p≤4294967295)&&decide (1≤h%256∧h%256≤9∧h/256%16≤3∧h/4096%16≤1)&&((List.range 3).all fun i=>if i<nR h then AtQ ([a,b,c].getD i 0) else decide ([a,b,c].getD i 0=0))
theorem PK {w:Int} (h0:0≤w) (h1:w≤18446744073709551615):(CT (DY w)=true∧wordK (DY w)=w)↔AtQ w=true:=by
 unfold CT wordK DY AtQ
 simp only [gG,BX,gM]
 omega
theorem AaI {h:Int} {n:Nat} (hn:h/256%16=n) (h0:0≤h) (h1:h≤18446744073709551615):h%256+256*(n:Int)+65536*(h/65536%65536)+4294967296*(h/4294967296)+4096*JK (decide (h/4096%2=1))=h↔h/4096%16≤1:=by
 unfold JK
 by_cases hd:h/4096%2=1
 ·rw [fW hd];simp only [jU];omega
 ·rw [fZ hd];simp only [iM,jL];omega
theorem AuD {h a b c:Int} {n:Nat} (hn:h/256%16=n):nR h=n:=by unfold nR;rw [hn];exact gE n
theorem VJ {h a b c p:Int} (hh:0≤h∧h≤18446744073709551615) (ha:0≤a∧a≤18446744073709551615) (hb:0≤b∧b≤18446744073709551615) (hc:0≤c∧c≤18446744073709551615) (hp:p≤4294967295) (h3:h/256%16≤3) :
  (BR (reqR h a b c)=true∧HM (reqR h a b c) p=[h,a,b,c,p])↔KS h a b c p=true:=by
 have wa:=PK ha.1 ha.2
 have wb:=PK hb.1 hb.2
 have wc:=PK hc.1 hc.2
 obtain ⟨n,hn⟩ : ∃n:Nat,h/256%16=n:=⟨(h/256%16).toNat,by omega⟩
 have hN:=AuD (a:=a) (b:=b) (c:=c) hn
 have hd:=AaI hn hh.1 hh.2
 have k1:0≤h/65536%65536∧h/65536%65536≤65535:=by omega
 have k2:0≤h/4294967296∧h/4294967296≤4294967295:=by omega
 have hn3:n=0∨n=1∨n=2∨n=3:=by omega
 rcases hn3 with rfl|rfl|rfl|rfl
 all_goals
  simp only [KS,reqR,BR,HM,SN,hN,CW,show List.range 3=[0,1,2] from rfl,jS,jI,gX,gO,gI,gF,List.all_cons,List.all_nil,gZ,gU,List.getD_cons_zero,List.getD_cons_succ,List.getD_nil,List.cons.injEq,and_true,Bool.and_true,gG,gM,BX,gV,Nat.reduceAdd,Nat.lt_irrefl,Nat.not_lt_zero,jL,Nat.reduceLT,jU,ite_true,ite_false]
  try simp only [←wa, ←wb, ←wc]
  rw [hd]
  try rw [eq_comm (a:=(0:Int)) (b:=c)]
  try rw [eq_comm (a:=(0:Int)) (b:=b)]
  try rw [eq_comm (a:=(0:Int)) (b:=a)]
  generalize wordK (DY a)=u at *
  generalize wordK (DY b)=v at *
  generalize wordK (DY c)=w at *
  constructor
  ·rintro ⟨q1,q2⟩
   simp_all
  ·rintro ⟨q1,q2⟩
   simp_all
section
attribute [local irreducible] AL AW RG Fin C Cd Cio AI AF AO
def UV (a:Int) (q:Nat):CR:=⟨IntKind.i64.wrap (a+q),0⟩
def newL (a:Int) (m:Nat):List CR:=(List.range m).map (UV a)
theorem AaQ (a:Int) (q:Nat):newL a (q+1)=newL a q++[UV a q]:=by unfold newL;rw [kG,iP];rfl
theorem MU (a:Int) (q:Nat):(newL a q).length=q:=by simp [newL]
structure NS where
 q:Nat
 F:List CR
 k:Nat
 n:Nat
theorem AuA (a n:Int):Cd Tryz.prog 159 [i64 a,i64 n] (.agg [i64 0,i64 0,.sl 0 0 (min (max n 0) 64).toNat,.nl,i64 0]) [.row 0 233 2 ((newL a (min (max n 0) 64).toNat).map tSl)]:=by
 obtain ⟨m,hm⟩ : ∃m:Nat,(min (max n 0) 64)=(m:Int):=⟨(min (max n 0) 64).toNat,by omega⟩
 rw [hm,gE]
 have hm64:m≤64:=by omega
 refine ZEN Tryz.func159 Tryz.ntmps159 ?_
 repeat' (first|(refine ZAL ?_;first|refine G7 ?_|refine G8 ?_|refine uA ?_)|refine uC ?_|refine ZK2 (fun hc=>?_) (fun hc=>?_)|fail)
 refine AW.wk (Wk.ownB 1 2 rfl rfl 233 2 (.push rfl rfl) rfl) ?_
 refine AW.loopP (fun (x:NS)=>x.q≤m∧x.F=newL a x.q∧x.n=x.q) (fun (x:NS)=>(pu (pu (pu (pu (pu (fun _=>.any) 0 (i64 a)) 4 (.ptr 0 0)) 5 (.ptr 1 0)) 9 (i64 (min (max n 0) 64))) 10 (i64 x.q))) (fun (x:NS)=>[.box 51 [i64 0,i64 0,.nl,.nl,i64 0],.box 51 [i64 0,i64 0,.sl 2 x.k x.n,.nl,i64 0],.row x.k 233 2 (x.F.map tSl)]) (fun (x:NS)=>m-x.q) (⟨0,[],0,0⟩) ?_ ?_ ?_
 ·exact ⟨fX _,rfl,rfl⟩
 ·exact Wk.cq 3
 ·rintro ⟨q,F,k,n'⟩ ⟨h2,h3,h4⟩
  dsimp only at h2 h3 h4 ⊢
  subst h4
  have h5:(F.map tSl).length=n':=by rw [fN,h3,MU]
  have h6:F.length=n':=by rw [h3,MU]
  by_cases hq:n'<m
  ·repeat' (first|(refine ZAL ?_;first|(refine kL 12 rfl ?_;first|refine CN rfl rfl _ _ 48 rfl ud48 inf233 rfl rfl rfl cY aA qB qB (by first|exact app_map aE|exact app_one (f:=tSl) (x:=UV a n') aE|exact qN) qN qS ?_|refine BD rfl rfl _ _ 48 rfl ud48 inf233 rfl rfl aA qB qB (by first|exact (rfl:_=List.map tSl [UV a n'])|exact qN) (.push qL qN) qS ?_|refine A_append_nlsub rfl rfl _ _ 48 rfl ud48 inf233 rfl rfl rfl rfl aJ qB qB iU.symm (.push qL qN) ?_)|(refine kL 1551 rfl ?_;first|refine A_lit rfl rfl 48 1 _ rfl ud48 inf233 (.cons rfl .nil) (els:=[[_,_]]) rfl (by first|exact (rfl:_=List.map tSl [UV a n'])|exact qN) rfl (gB rfl) (ZbT rfl) (ZbT rfl) (.push qL qN) ?_)|(refine kL 1539 rfl ?_;first|refine A_store_rp rfl rfl 48 _ _ rfl r7_ (by decide) rfl rfl aI rfl rfl rfl (ZbT rfl) (by first|exact map_set (f:=tSl) (x:=UV a n')|exact qN) qN ?_)|(refine kL 1635 rfl ?_;first|refine A_store_rp rfl rfl 51 _ _ rfl inf51 (by decide) rfl rfl aI rfl rfl rfl (ZbT rfl) (by first|exact map_set (f:=tSl) (x:=UV a n')|exact qN) qN ?_)|refine uA ?_)|refine uC ?_|refine ZK2 (fun hc=>?_) (fun hc=>?_)|fail)
   all_goals try exact ZE5
   refine ⟨⟨n'+1,F++[UV a n'],k+1,n'+1⟩,⟨by dsimp only;omega,by dsimp only;rw [AaQ,h3],rfl⟩,by dsimp only;omega,?_⟩
   exact Wk.cq 3
  ·have e:n'=m:=by omega
   subst e
   subst h3
   repeat' (first|(refine ZAL ?_;first|refine G7 ?_|refine G8 ?_|refine uA ?_)|refine uC ?_|refine ZK2 (fun hc=>?_) (fun hc=>?_)|fail)
   all_goals first|(exfalso;omega)|((first|exact Fin.q Tryz.results159 (.cons (.agg rfl rfl ud51 rfl inf51 (us:=[_,_,_,_,_]) rfl rfl) .nil) [2]|refine Fin.q Tryz.results159 (.cons (.agg rfl rfl ud51 rfl inf51 (us:=[_,_,_,_,_]) rfl rfl) .nil) [2] (hr:=(.t ?_))|refine Fin.mkv (rs:=_) Tryz.results159 (.cons (.agg rfl rfl ud51 rfl inf51 (us:=[_,_,_,_,_]) rfl rfl) .nil) [2] (by decide) rfl ?_ ?_ ?_<;>repeat' (first|exact ZE1|refine ZE2 ?_ ?_|refine ZE3 ?_|exact ZE4|fail)))
theorem CG (l:List CR) (h:l.length≤8796093022208):Cd Tryz.prog 199 [.ln (l.map tSl)] (.sl 0 0 l.length) [.row 0 233 2 (l.map tSl)]:=by
 refine ZEN Tryz.func199 Tryz.ntmps199 ?_
 repeat' (first|(refine ZAL ?_;first|(refine kL 1545 rfl ?_;first|refine EF rfl rfl 48 _ _ rfl ud48 rfl (fun b hb=>?_))|(refine kL 12 rfl ?_;first|refine CN rfl rfl _ _ 48 rfl ud48 inf233 rfl rfl rfl cY aA qB qB (by first|exact app_map aE|exact app_one (f:=tSl) (x:=⟨_,_⟩) aE|exact qN) qN qS ?_|refine BD rfl rfl _ _ 48 rfl ud48 inf233 rfl rfl aA qB qB (by first|exact (rfl:_=List.map tSl [⟨_,_⟩])|exact qN) (.push qL qN) qS ?_|refine A_append_nlsub rfl rfl _ _ 48 rfl ud48 inf233 rfl rfl rfl rfl aJ qB qB iU.symm (.push qL qN) ?_)|refine uA ?_)|refine uC ?_|refine ZK2 (fun hc=>?_) (fun hc=>?_)|fail)
 ·have hl:l=[]:=by simpa using hb hc
  subst hl
  refine Fin.wk (Wk.own 2 rfl 233 2 (.push rfl rfl)) ?_
  (first|exact Ab Tryz.results199|refine Aj Tryz.results199 ?_|refine Ak Tryz.results199 ?_ ?_ ?_<;>repeat' (first|exact ZE1|refine ZE2 ?_ ?_|refine ZE3 ?_|exact ZE4|fail))
 ·(first|exact Ab Tryz.results199|refine Aj Tryz.results199 ?_|refine Ak Tryz.results199 ?_ ?_ ?_<;>repeat' (first|exact ZE1|refine ZE2 ?_ ?_|refine ZE3 ?_|exact ZE4|fail))
theorem CY (l:List CD) (h:l.length≤5864062014805):Cd Tryz.prog 200 [.ln (l.map tOd)] (.sl 0 0 l.length) [.row 0 236 3 (l.map tOd)]:=by
 refine ZEN Tryz.func200 Tryz.ntmps200 ?_
 repeat' (first|(refine ZAL ?_;first|(refine kL 1577 rfl ?_;first|refine EF rfl rfl 49 _ _ rfl ud49 rfl (fun b hb=>?_))|refine Ge ?_|refine uA ?_)|refine uC ?_|refine ZK2 (fun hc=>?_) (fun hc=>?_)|fail)
 ·have hl:l=[]:=by simpa using hb hc
  subst hl
  refine Fin.wk (Wk.own 2 rfl 236 3 (.push rfl rfl)) ?_
  (first|exact Ab Tryz.results200|refine Aj Tryz.results200 ?_|refine Ak Tryz.results200 ?_ ?_ ?_<;>repeat' (first|exact ZE1|refine ZE2 ?_ ?_|refine ZE3 ?_|exact ZE4|fail))
 ·(first|exact Ab Tryz.results200|refine Aj Tryz.results200 ?_|refine Ak Tryz.results200 ?_ ?_ ?_<;>repeat' (first|exact ZE1|refine ZE2 ?_ ?_|refine ZE3 ?_|exact ZE4|fail))
theorem pcopied_c (i t sp:Int) (fr:List CR) (ol:List CD) (hf:fr.length≤8796093022208) (ho:ol.length≤5864062014805) :
  Cd Tryz.prog 139 [.agg [i64 i,i64 t,.ln (fr.map tSl),.ln (ol.map tOd),i64 sp]] (.agg [i64 i,i64 t,.sl 0 0 fr.length,.sl 1 0 ol.length,i64 sp]) [.row 0 233 2 (fr.map tSl),.row 0 236 3 (ol.map tOd)]:=by
 refine ZEN Tryz.func139 Tryz.ntmps139 ?_
 repeat' (first|refine uA ?_|(refine ZRG ?_;first|(refine kR 6378 rfl ?_;first|(first|(refine uQ (CG _ ?zq0) 0 ?_;(case zq0=>assumption))|(refine uQ (CG _ ?zq0) 1 ?_;(case zq0=>assumption))|(refine uQ (CG _ ?zq0) 2 ?_;(case zq0=>assumption))|(refine uQ (CG _ ?zq0) 3 ?_;(case zq0=>assumption))|(refine uQ (CG _ ?zq0) 4 ?_;(case zq0=>assumption))|(refine uQ (CG _ ?zq0) 5 ?_;(case zq0=>assumption))|(refine uQ (CG _ ?zq0) 6 ?_;(case zq0=>assumption))|(refine uQ (CG _ ?zq0) 7 ?_;(case zq0=>assumption))|(refine uQ (CG _ ?zq0) 8 ?_;(case zq0=>assumption))|(refine uQ (CG _ ?zq0) 9 ?_;(case zq0=>assumption))|(refine uQ (CG _ ?zq0) 10 ?_;(case zq0=>assumption))|(refine uQ (CG _ ?zq0) 11 ?_;(case zq0=>assumption))|(refine uQ (CG _ ?zq0) 12 ?_;(case zq0=>assumption))|(refine uQ (CG _ ?zq0) 13 ?_;(case zq0=>assumption))))|(refine kR 6410 rfl ?_;first|(first|(refine uQ (CY _ ?zq0) 0 ?_;(case zq0=>assumption))|(refine uQ (CY _ ?zq0) 1 ?_;(case zq0=>assumption))|(refine uQ (CY _ ?zq0) 2 ?_;(case zq0=>assumption))|(refine uQ (CY _ ?zq0) 3 ?_;(case zq0=>assumption))|(refine uQ (CY _ ?zq0) 4 ?_;(case zq0=>assumption))|(refine uQ (CY _ ?zq0) 5 ?_;(case zq0=>assumption))|(refine uQ (CY _ ?zq0) 6 ?_;(case zq0=>assumption))|(refine uQ (CY _ ?zq0) 7 ?_;(case zq0=>assumption))|(refine uQ (CY _ ?zq0) 8 ?_;(case zq0=>assumption))|(refine uQ (CY _ ?zq0) 9 ?_;(case zq0=>assumption))|(refine uQ (CY _ ?zq0) 10 ?_;(case zq0=>assumption))|(refine uQ (CY _ ?zq0) 11 ?_;(case zq0=>assumption))|(refine uQ (CY _ ?zq0) 12 ?_;(case zq0=>assumption))|(refine uQ (CY _ ?zq0) 13 ?_;(case zq0=>assumption))))|refine uR ?_)|refine uC ?_|refine AW.drawU (id:=1) mixed 4 qR ?_|refine ZK2 (fun hc=>?_) (fun hc=>?_)|fail)
 all_goals ((first|exact Fin.q Tryz.results139 (.cons (.agg rfl rfl ud51 rfl inf51 (us:=[_,_,_,_,_]) rfl rfl) .nil) [2,3]|refine Fin.q Tryz.results139 (.cons (.agg rfl rfl ud51 rfl inf51 (us:=[_,_,_,_,_]) rfl rfl) .nil) [2,3] (hr:=(.t ?_))|refine Gg Tryz.results139 ?_ ?_ ?_<;>repeat' (first|exact ZE1|refine ZE2 ?_ ?_|refine ZE3 ?_|exact ZE4|fail)))
end
end Go.Proofs.YtccefppppedgkaaGreat
