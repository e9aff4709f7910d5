/- Joined: XTObjP, XTCloneR, XTFifo, XTCallD, XTReadCP, XTNew, XTPool, XLib, XTRefRead, XTRefs, XTTake, XTBack, XTEpoch, XTIdx, XTSlots, XTBehind, XTHallT, XTStartF, XTPutH, XTOpK, XTNzB, XTIoS, XTMarks, XTPlace, XTTeeP. -/
import Derived.Test.YtccefppppedgkaaGreatKGp
import Derived.Test.YtccefppppedgkaaGreatKGq
import Derived.WalkKit
import Derived.WalkLawsBesides
import Derived.Lib.Hide
import Derived.Deep.RegionHeld3
set_option linter.unusedVariables false
set_option linter.unusedSimpArgs false
set_option linter.unnecessarySimpa false
set_option maxRecDepth 100000
set_option maxHeartbeats 64000000
namespace Go.Proofs.YtccefppppedgkaaGreat
open Go.RowKit
section
variable {cap:Int}
theorem HX {l:List AX} (h : ∀x∈l,chanOK cap x=true) {n:Nat} {y:AX} (hy:chanOK cap y=true) : ∀x∈l.set n y,chanOK cap x=true:=fun x hx=>by
 rcases iN hx with hx|rfl
 ·exact h x hx
 ·exact hy
theorem SZ {l:List AH} (h : ∀w∈l,waitOK w=true) {n:Nat} {y:AH} (hy:waitOK y=true) : ∀w∈l.set n y,waitOK w=true:=fun x hx=>by
 rcases iN hx with hx|rfl
 ·exact h x hx
 ·exact hy
theorem AhF:waitOK w0=true:=by decide
theorem IR {l:List AH} (h : ∀w∈l,waitOK w=true) (t:Int) : ∀w∈cutW l t,waitOK w=true:=by
 unfold cutW;split
 ·exact SZ h AhF
 ·exact h
theorem f_ (S:List Int) : ∀ {l:List AH},(∀w∈l,waitOK w=true) → ∀w∈S.foldl cutW l,waitOK w=true:=by
 induction S with
 |nil=>intro l h;exact h
 |cons a S ih=>intro l h;exact ih (IR h a)
variable {t:Int}
theorem KT {d:List Rst} (h : ∀r∈d,goodR r=true) {r:Rst} (hr:goodR r=true) : ∀x∈FX d t r,goodR x=true:=fun x hx=>by
 rcases w9_ hx with hx|rfl
 ·exact h x hx
 ·exact hr
theorem RB (S:List HA) : ∀ {d:List Rst},(∀r∈d,goodR r=true)→(∀x∈S,goodR x.result=true) → ∀r∈tellL d S,goodR r=true:=by
 induction S with
 |nil=>intro d h _;exact h
 |cons a S ih=>intro d h hs;exact ih (KT h (hs a (by simp))) fun x hx=>hs x (by simp [hx])
theorem n_v:(0:Int)≤0∧(0:Int)≤4294967295:=by decide
theorem i6_:(0:Int)≤0∧(0:Int)<256:=by decide
theorem AxS:(0:Int)≤9∧(9:Int)<256:=by decide
theorem AxR:(0:Int)≤10∧(10:Int)<256:=by decide
theorem n_k:(0:Int)≤0∧(0:Int)<16:=by decide
theorem n_t : ∀x∈([]:List HA),goodR x.result=true:=fun _ h=>by cases h
theorem k6_ {l:List AH} (h : ∀w∈l,waitOK w=true) (t:Int) {w:AH} (hw:waitOK ⟨true,w.ticket,w.seq,w.cases⟩=true) : ∀x∈putW l t w,waitOK x=true:=by
 unfold putW;split
 ·exact SZ h hw
 ·exact h
structure GOk (cap:Int) (g:DG):Prop where
 c:chanOK cap g.c=true
 l : ∀w∈g.l,waitOK w=true
 t : ∀x∈g.told,goodR x.result=true
 v:0≤g.r.value∧g.r.value≤4294967295
 e:0≤g.r.code∧g.r.code<256
theorem n1_ {l:List Int} (h : ∀y∈l,0≤y∧y≤4294967295):0≤l.headD 0∧l.headD 0≤4294967295:=by
 cases l with
 |nil=>exact ⟨gG _,by decide⟩
 |cons a l=>exact h a (by simp)
theorem AiP {c:AX} {x:Int} {l:List AH} {d v:Int} (hc:chanOK cap c=true) (hl : ∀w∈l,waitOK w=true) (hv:0≤v∧v≤4294967295):GOk cap (doG c x l d v):=by
 have hc0:=hc
 obtain ⟨h1,h2,⟨h3,h4⟩,h5⟩:=BC.1 hc
 have told : ∀ {f:FS} {t m:Nat} {w:AH} {k:BD} {z:Int},f.th=t→f.wh=m→l[t]? = some w→w.cases[m]? = some k→(0≤z∧z≤4294967295) → ∀y∈[(⟨f.th,⟨(thW l f).seq,f.wh,0,z⟩⟩:HA)],goodR y.result=true:=fun {f t m w k z} e1 e2 hw hk hz y hy=>by
  rw [iT] at hy
  subst hy
  have hb:=FB (hl w (fI hw))
  have hm:=get_lt hk
  have:=hb.n
  unfold thW
  rw [EC,e1,fW,BJ hw,e2]
  dsimp only
  refine ⟨by omega,by omega,by omega,hb.s⟩
 unfold doG
 split
 ·rename_i hr
  unfold TI at hr
  simp only [fX,lH,gE] at hr
  split
  ·rename_i hd
   split
   ·exact ⟨hc,hl,n_t,n_v,AxS⟩
   ·rename_i hcl
    unfold d4_
    split
    ·rename_i hf
     obtain ⟨t,m,w,k,e1,e2,hw,ho,hk,_,_⟩:=NK hf
     refine ⟨hc,?_,told e1 e2 hw hk hv,n_v,i6_⟩
     exact IR hl _
    ·rename_i hf
     refine ⟨?_,hl,n_t,n_v,i6_⟩
     rw [BC]
     unfold chB
     dsimp only
     rw [fL hd] at hr
     simp only [lH,gE] at hr
     obtain ⟨hu,(hr|hr)|hr⟩:=hr
     ·exact absurd hr hcl
     ·exact absurd hr hf
     ·refine ⟨h1,h2,⟨by rw [fJ];simp only [fY,gB];omega,fun y hy=>?_⟩,.inl hu⟩
      rcases gJ.1 hy with hy|hy
      ·exact h4 y hy
      ·rw [iT] at hy;subst hy;exact hv
  ·split
   ·unfold c5_
    split
    ·rename_i hf
     obtain ⟨t,m,w,k,e1,e2,hw,ho,hk,_,_⟩:=NK hf
     have hb:=FB (hl w (fI hw))
     have hz:0≤thV l (fir l 1 x)∧thV l (fir l 1 x)≤4294967295:=by
      unfold thV thW
      rw [e1,fW,BJ hw,e2,fW,BJ hk]
      exact (EU.1 (hb.k k (fI hk))).2.2
     have hall : ∀y∈c.buf++[thV l (fir l 1 x)],0≤y∧y≤4294967295:=fun y hy=>by
      rcases gJ.1 hy with hy|hy
      ·exact h4 y hy
      ·rw [iT] at hy;subst hy;exact hz
     refine ⟨?_,IR hl _,told e1 e2 hw hk n_v,n1_ hall,i6_⟩
     rw [BC]
     unfold chB
     exact ⟨h1,h2,⟨by dsimp only;rw [gD,fJ];simp only [fY,gB];omega,fun y hy=>hall y (gW hy)⟩,h5⟩
    ·refine ⟨?_,hl,n_t,n1_ h4,i6_⟩
     rw [BC]
     unfold chB
     exact ⟨h1,h2,⟨by dsimp only;rw [gD];omega,fun y hy=>h4 y (gW hy)⟩,h5⟩
   ·exact ⟨hc,hl,n_t,n_v,AxS⟩
 ·exact ⟨hc,hl,n_t,n_v,AxR⟩
theorem ArE {l:List AH} {h:Int} {z:Int} (hz:z∈onS l h) : ∃(n:Nat) (w:AH),z=n∧l[n]? = some w∧w.on=true∧0≤ixF (isH h) w.cases:=by
 have hm:=ED.1 hz
 have : ∀k,k≤l.length→z∈onK l h k → ∃(n:Nat) (w:AH),z=n∧l[n]? = some w∧w.on=true∧0≤ixF (isH h) w.cases:=by
  intro k
  induction k with
  |zero=>intro _ hm;cases hm
  | succ k ih =>
   intro hk hm
   obtain ⟨a,ha⟩ : ∃a,l[k]? = some a:=⟨_,ZgE (by omega)⟩
   rw [b3_ ha] at hm
   split at hm
   ·rename_i hc
    simp only [fX,gE] at hc
    rcases gJ.1 hm with hm|hm
    ·exact ih (by omega) hm
    ·rw [iT] at hm
     exact ⟨k,a,hm,ha,hc.1,hc.2⟩
   ·exact ih (by omega) hm
 exact this _ (fN _) hm
theorem AgG {c:AX} {x:Int} {l:List AH} (hc:chanOK cap c=true) (hl : ∀w∈l,waitOK w=true):chanOK cap (shutG c x l).c=true∧(∀w∈(shutG c x l).l,waitOK w=true)∧(∀y∈(shutG c x l).told,goodR y.result=true)∧0≤(shutG c x l).e∧(shutG c x l).e<256:=by
 obtain ⟨h1,h2,⟨h3,h4⟩,h5⟩:=BC.1 hc
 unfold shutG
 split
 ·refine ⟨?_,f_ _ hl,fun y hy=>?_,gG _,(by show (0:Int)<256;decide)⟩
  ·rw [BC];exact ⟨h1,h2,⟨h3,h4⟩,.inl rfl⟩
  ·obtain ⟨z,hz,rfl⟩:=iP.1 hy
   obtain ⟨n,w,rfl,hw,_,hi⟩:=ArE hz
   have hb:=FB (hl w (fI hw))
   have h6:=(ZR (isH x) w.cases).2
   have:=hb.n
   unfold shT
   rw [EC,fW,BJ hw]
   dsimp only
   exact ⟨by decide,by decide,by omega,hb.s⟩
 ·exact ⟨hc,hl,fun _ h=>absurd h (by simp),(by show (0:Int)≤9;decide),(by show (9:Int)<256;decide)⟩
structure Fh (c:AB) (h:AM):Prop where
 tk:0≤h.ticket∧h.ticket≤4294967295
 ch : ∀x∈h.chans,chanOK c.cap x=true
 w : ∀w∈h.waits,waitOK w=true
 d : ∀r∈h.done,goodR r=true
structure Fru (r:Rst):Prop where
 v:0≤r.value∧r.value≤4294967295
 e:0≤r.code∧r.code<256
 k:0≤r.cas∧r.cas<16
theorem Fru.code {e:Int} (h:0≤e∧e<256):Fru ⟨0,0,e,0⟩:=⟨n_v,h,n_k⟩
variable {c:AB}
theorem u6_ (h:AY c=true) (k:c.kind=3):1≤c.gens∧c.gens≤4095∧(c.start.length:Int)≤c.chans ∧ ∀n∈c.start,0≤n∧n≤c.cap:=by
 unfold AY at h
 simp only [fX] at h
 have o:=h.2
 unfold ownC at o
 rw [fM (by omega),fL k] at o
 simp only [fX,CB,gE,Bool.not_eq_true',List.any_eq_false,Bool.not_eq_false'] at o
 refine ⟨o.1.1.2.1,o.1.1.2.2,o.1.2,fun n hn=>?_⟩
 have:=o.2 n hn
 simpa [inI] using this
variable {h:AM}
theorem u4_ {t n:Int} {q:AT} (k:AY c=true) (k3:c.kind=3) (b:Fh c h) (hq:BR q=true) (hn:0≤n∧n≤1048575):Fh c (callH c h t n q).1∧Fru (callH c h t n q).2:=by
 have sh:=AJ k
 obtain ⟨s1,s2,s3,s4⟩:=sh.h3 k3
 obtain ⟨q1,q2,q3,q4,q5⟩:=LS.1 hq
 have dec : ∀e:Int,e=0∨e=1∨e=6∨e=7∨e=8∨e=10∨e=12∨e=13∨e=14→Fru ⟨0,0,e,0⟩:=fun e he=>Fru.code (by omega)
 unfold callH
 split
 ·unfold openH;split
  ·exact ⟨b,dec _ (by simp)⟩
  ·split
   ·rename_i hcap h0
    obtain ⟨hm,hp⟩:=n6_ (d:=(default:AX)) h0
    have hg:=(BC.1 (b.ch _ hm)).1
    dsimp only [chA]
    generalize h.chans.getD (ixF (okO c) h.chans).toNat default=a at hg hp ⊢
    unfold okO at hp
    simp only [fX,gE] at hp
    have hp2:=hp.2
    refine ⟨⟨b.tk,?_,b.w,b.d⟩,⟨?_,i6_,n_k⟩⟩
    ·refine HX b.ch ?_
     rw [BC]
     exact ⟨⟨by dsimp only;omega,by dsimp only;omega⟩,⟨by dsimp only;omega,by dsimp only;omega⟩,⟨by dsimp only [List.length_nil];omega,fun y hy=>by cases hy⟩,.inl rfl⟩
    ·dsimp only
     unfold hdl
     split<;>omega
   ·refine ⟨b,?_⟩
    split
    ·exact dec _ (by simp)
    ·exact dec _ (by simp)
 ·split
  ·unfold freeH;split
   ·rename_i hf
    split
    ·refine ⟨⟨b.tk,?_,b.w,b.d⟩,dec _ (by simp)⟩
     refine HX b.ch ?_
     have hg:=(BC.1 (b.ch _ (PS hf))).1
     rw [BC]
     exact ⟨hg,⟨by dsimp only;omega,by dsimp only;omega⟩,⟨by dsimp only [List.length_nil];omega,fun y hy=>by cases hy⟩,.inr ⟨rfl,rfl⟩⟩
    ·exact ⟨b,dec _ (by simp)⟩
   ·exact ⟨b,dec _ (by simp)⟩
  ·split
   ·unfold chooseH;split
    ·refine ⟨b,dec _ ?_⟩
     unfold casesE
     repeat' split
     all_goals simp
    ·rename_i hE
     obtain ⟨h3,h3', -,h5⟩:=YQ (Decidable.not_not.1 hE)
     split
     ·rename_i h0
      obtain ⟨hm, -⟩:=n6_ (d:=(default:BD)) h0
      have hf:=h5 _ hm
      have hcs:=q5 _ hm
      have hlt:=(ZR (KZ h) q.cases).2
      generalize q.cases.getD (ixF (KZ h) q.cases).toNat default=z at hf hcs ⊢
      have g:=AiP (x:=z.handle) (d:=z.dir) (b.ch _ (PS hf)) b.w (EU.1 hcs).2.2
      unfold oneH WJ
      exact ⟨⟨b.tk,HX b.ch g.c,g.l,RB _ b.d g.t⟩,⟨g.v,g.e,⟨h0,by dsimp only;omega⟩⟩⟩
     ·split
      ·exact ⟨b,dec _ (by simp)⟩
      ·split
       ·exact ⟨b,dec _ (by simp)⟩
       ·rename_i htk
        split
        ·refine ⟨⟨⟨by have:=b.tk.1;dsimp only;omega,by dsimp only;omega⟩,b.ch,?_,b.d⟩,dec _ (by simp)⟩
         refine k6_ b.w _ ?_
         rw [SY]
         exact .inl ⟨rfl,b.tk,hn,⟨h3',h3⟩,q5⟩
        ·exact ⟨b,dec _ (by simp)⟩
   ·split
    ·unfold closeH;split
     ·rename_i hf
      obtain ⟨g1,g2,g3,g4⟩:=AgG (x:=q.arg) (b.ch _ (PS hf)) b.w
      exact ⟨⟨b.tk,HX b.ch g1,g2,RB _ b.d g3⟩,Fru.code g4⟩
     ·exact ⟨b,dec _ (by simp)⟩
    ·split
     ·refine ⟨b,?_⟩
      unfold lookH
      split
      ·rename_i hf
       obtain ⟨h1,h2,⟨h3,h4⟩,h5⟩:=BC.1 (b.ch _ (PS hf))
       split
       ·exact ⟨⟨by dsimp only;omega,by dsimp only;omega⟩,i6_,n_k⟩
       ·exact ⟨⟨by dsimp only;omega,by dsimp only;omega⟩,i6_,n_k⟩
      ·exact dec _ (by simp)
     ·split
      ·unfold cancelH;split
       ·rename_i hc
        unfold i1_ IU at hc
        simp only [fX,gE] at hc
        obtain ⟨⟨⟨c1,c2,c3⟩,c4⟩,c5⟩:=hc
        have hs:=(FB (b.w _ (ZH (d:=default) (l:=h.waits) (n:=q.arg.toNat) (by omega)))).s
        rw [c5] at hs
        refine ⟨⟨b.tk,b.ch,IR b.w _,KT b.d ?_⟩,dec _ (by simp)⟩
        rw [EC]
        exact ⟨⟨by dsimp only;decide,by dsimp only;decide⟩,⟨by dsimp only;decide,by dsimp only;decide⟩,⟨by dsimp only;decide,by dsimp only;decide⟩,hs⟩
       ·exact ⟨b,dec _ (by simp)⟩
      ·exact ⟨b,dec _ (by simp)⟩
theorem OY {t n:Int} {q:AT} (f:DS c h=true) (hq:BR q=true) (hn:0≤n∧n≤1048575):DS c (applyH c h t n q)=true:=by
 obtain ⟨k,k3,f1,f2,f3,⟨f4,f5⟩,f6,f7⟩:=DI.1 f
 obtain ⟨b,r⟩:=u4_ (t:=t) k k3 ⟨f1,f6,f7,f5⟩ hq hn
 have hl:=KQ c h t n q
 have hw:=YJ c h t n q
 refine DI.2 ⟨k,k3,b.tk,by rw [hl.1];exact f2,by rw [hw];exact f3,⟨by rw [hl.2];exact f4,?_⟩,b.ch,b.w⟩
 refine KT b.d ?_
 rw [EC]
 exact ⟨⟨r.v.1,by have:=r.v.2;dsimp only;omega⟩,r.e,r.k,hn⟩
theorem ZC (k:AY c=true) (k3:c.kind=3):DS c (startH c)=true:=by
 have sh:=AJ k
 obtain ⟨s1,s2,s3,s4⟩:=sh.h3 k3
 obtain ⟨g1,g2,g3,g4⟩:=u6_ k k3
 have hp:((plN c:Nat):Int)=c.chans:=by unfold plN;omega
 have ht:((thN c:Nat):Int)=c.threads:=by have:=sh.t0;have:=sh.t1;unfold thN;omega
 have ln:=OI c
 refine DI.2 ⟨k,k3,n_v,by rw [ln.c];exact hp,by rw [ln.w];exact ht,⟨by rw [ln.d];exact ht,fun r hr=>?_⟩,fun x hx=>?_,fun w hw=>?_⟩
 ·rw [iS hr];decide
 ·change x∈stC c.start (plN c) (plN c) at hx
  unfold stC at hx
  obtain ⟨j, -,rfl⟩:=iP.1 hx
  rw [BC]
  split
  ·rename_i hj
   have:=g4 _ (ZH (d:=(0:Int)) hj.2)
   exact ⟨⟨by dsimp only;decide,by dsimp only;decide⟩,this,⟨by dsimp only [List.length_nil];omega,fun y hy=>by cases hy⟩,.inl rfl⟩
  ·exact ⟨⟨by dsimp only;decide,by dsimp only;decide⟩,⟨by dsimp only;decide,by dsimp only;omega⟩,⟨by dsimp only [List.length_nil];decide,fun y hy=>by cases hy⟩,.inr ⟨rfl,rfl⟩⟩
 ·rw [iS hw];decide
theorem NO {l:List Int} (h:GV c l=true):DS c (readH c l)=true∧putH c (readH c l)=l:=by
 have h0:=h
 unfold GV at h
 simp only [fX,gE] at h
 obtain ⟨⟨⟨k,k3⟩,hl⟩,hp⟩:=h
 unfold readH
 rw [fL h0]
 refine ⟨?_,hp⟩
 cases hf:DS c (KY c l)
 ·unfold putH at hp
  rw [hf,fM (by simp)] at hp
  subst hp
  have sh:=AJ k
  obtain ⟨s1,s2,s3,s4⟩:=sh.h3 k3
  rw [MU k k3] at hl
  have h1:=sh.t0
  have h2:0≤c.chans*(1+c.cap):=jW (by omega) (by omega)
  simp only [gB] at hl
  omega
 ·rfl
theorem NP {l:List Int} (h:FK c l=true):DT c (readX c l)=true∧putX c (readX c l)=l:=by
 have h0:=h
 unfold FK at h
 simp only [fX,gE] at h
 obtain ⟨⟨⟨k,k3⟩,hl⟩,hp⟩:=h
 unfold readX
 rw [fL h0]
 refine ⟨?_,hp⟩
 cases hf:DT c (KH c l)
 ·unfold putX at hp
  rw [hf,fM (by simp)] at hp
  subst hp
  have sh:=AJ k
  have:=sh.h1 k3
  have h1:=sh.t0
  rw [MW k k3] at hl
  simp only [gB] at hl
  omega
 ·rfl
theorem y3_ (f:DS c h=true):GV c (putH c h)=true∧readH c (putH c h)=h:=by
 have e:GV c (putH c h)=true:=by rw [ZZ,f]
 exact ⟨e,by unfold readH;rw [fL e,c1_ f]⟩
theorem y4_ {x:CL} (f:DT c x=true):FK c (putX c x)=true∧readX c (putX c x)=x:=by
 have e:FK c (putX c x)=true:=by rw [a_,f]
 exact ⟨e,by unfold readX;rw [fL e,c2_ f]⟩
theorem OZ (f:DS c h=true):NR h∧h.chans.length≤8∧h.waits.length≤64∧h.done.length≤64:=by
 obtain ⟨k,k3,f1,f2,f3,⟨f4,f5⟩,f6,f7⟩:=DI.1 f
 have sh:=AJ k
 obtain ⟨s1,s2,s3,s4⟩:=sh.h3 k3
 have h1:=sh.t1
 refine ⟨⟨by omega,fun x hx=>?_,⟨by omega,fun w hw=>?_⟩,by omega⟩,by omega,by omega,by omega⟩
 ·obtain ⟨-,g2,⟨g3, -⟩, -⟩:=BC.1 (f6 x hx);omega
 ·have:=(FB (f7 w hw)).n;omega
theorem v2_ (f:DS c h=true) {q:AT} (hq:sRq q) (hl:q.cases.length≤5864062014805):okQ h q:=by
 obtain ⟨k,k3,f1,f2,f3,⟨f4,f5⟩,f6,f7⟩:=DI.1 f
 refine ⟨hq.2.1,hq.2.2.1,hq.2.2.2.2.2,hl,by omega,fun x hx=>?_⟩
 have:=(BC.1 (f6 x hx)).1
 unfold sI;omega
end
section
attribute [local irreducible] AL AW RG Fin C Cd Cio AI AF AN
theorem clone_R (l:List Rst) (h:l.length≤4398046511104):Cd Tryz.prog 280 [.ln (l.map tR)] (.sl 0 0 l.length) [.row 0 53 4 (l.map tR)]:=by
 refine ZEN Tryz.func280 Tryz.ntmps280 ?_
 repeat' (first|(refine ZAL ?_;first|(refine kL 3049 rfl ?_;first|refine DU rfl rfl 95 _ _ rfl ud95 rfl (fun b hb=>?_))|refine uA ?_)|refine uC ?_|refine kcc rfl (fun hc=>?_) (fun hc=>?_)|fail)
 ·have hl:l=[]:=by simpa using hb hc
  subst hl
  refine Fin.wk (Wk.own 2 rfl 53 4 (.push rfl rfl)) ?_
  exact Ab Tryz.results280
 ·exact Ab Tryz.results280
theorem AcE (cap:Int) (l:List Int) (d:List Rst) (hl:l.length≤17592186044416) (hd:d.length≤4398046511104) :
  Cd Tryz.prog 282 [.agg [i64 cap,.ln (l.map tI),.ln (d.map tR)]] (.agg [i64 cap,.sl 0 0 l.length,.sl 1 0 d.length]) [.row 0 3 1 (l.map tI),.row 0 53 4 (d.map tR)]:=by
 refine ZEN Tryz.func282 Tryz.ntmps282 ?_
 repeat' (first|refine uA ?_|(refine ZRG ?_;first|(refine kR 2634 rfl ?_;first|(refine uQ (AR _ ?zq0) 2 ?_;(case zq0=>assumption)))|(refine kR 8970 rfl ?_;first|(refine uQ (clone_R _ ?zq0) 3 ?_;(case zq0=>assumption)))|refine uR ?_)|refine uC ?_|refine AW.drawU (id:=1) mixed 4 qR ?_|fail)
 exact Fin.q Tryz.results282 (.cons (.agg rfl rfl ud125 rfl inf125 (us:=[_,_,_]) rfl rfl) .nil) [2,3]
theorem v_ (cap t:Int):Cd Tryz.prog 158 [i64 cap,i64 t] (.agg [i64 cap,.nl,.sl 0 0 (max (min t 64) 0).toNat]) [.row 0 53 4 ((List.replicate (max (min t 64) 0).toNat (⟨0,0,0,0⟩:Rst)).map tR)]:=by
 refine ZEN Tryz.func158 Tryz.ntmps158 ?_
 repeat' (first|(refine ZAL ?_;first|(refine kL 3056 rfl ?_;first|refine VP rfl rfl 95 _ _ rfl ud95 inf53 rfl (zs:=[(.v (.int .i64 0)),(.v (.int .i64 0)),(.v (.int .i64 0)),(.v (.int .i64 0))]) rfl rfl rfl (max (min t 64) 0).toNat (by omega) (by omega) qB qB (by exact rep_map (f:=tR) (x:=⟨_,_,_,_⟩)) (.push qL qN) ?_)|refine uA ?_)|refine uC ?_|fail)
 exact Fin.q Tryz.results158 (.cons (.agg rfl rfl ud125 rfl inf125 (us:=[_,_,_]) rfl rfl) .nil) [1]
theorem AiZ (cap:Int) (l:List Int) (d:List Rst) (k1 k2:Nat) (t s k v:Int) :
  Cio Tryz.prog 283 [.agg [i64 cap,.sl 0 k1 l.length,.sl 1 k2 d.length],i64 t,i64 s,i64 k,i64 v] [.row k1 3 1 (l.map tI),.row k2 53 4 (d.map tR)]
   (.agg [i64 cap,.sl 0 k1 l.length,.sl 1 k2 d.length]) [.row k1 3 1 (l.map tI),.row k2 53 4 ((JA d t ⟨s,0,k,v⟩).map tR)]:=by
 by_cases h0:0≤t
 ·by_cases h1:t<d.length
  ·rw [d5_ h0 h1]
   obtain ⟨i,rfl⟩:=Int.eq_ofNat_of_zero_le h0
   rw [fW]
   have h2:i<d.length:=by omega
   obtain ⟨x,hx⟩ : ∃x,d[i]? = some x:=⟨_,ZgE h2⟩
   refine ZEN Tryz.func283 Tryz.ntmps283 ?_
   repeat' (first|refine A0 ?_|fail)
   all_goals exact Dz Tryz.results283
  ·rw [QC (fun h=>h1 h.2)]
   refine ZEN Tryz.func283 Tryz.ntmps283 ?_
   repeat' (first|refine A0 ?_|fail)
   all_goals exact Dz Tryz.results283
 ·rw [QC (fun h=>h0 h.1)]
  refine ZEN Tryz.func283 Tryz.ntmps283 ?_
  repeat' (first|refine A0 ?_|fail)
  all_goals exact Dz Tryz.results283
theorem AgV (cap:Int) (l:List Int) (d:List Rst) (k1 k2:Nat) (t s k v:Int) {n m:Nat} (hn:n=l.length) (hm:m=d.length) :
  Cio Tryz.prog 283 [.agg [i64 cap,.sl 0 k1 n,.sl 1 k2 m],i64 t,i64 s,i64 k,i64 v] [.row k1 3 1 (l.map tI),.row k2 53 4 (d.map tR)]
   (.agg [i64 cap,.sl 0 k1 n,.sl 1 k2 m]) [.row k1 3 1 (l.map tI),.row k2 53 4 ((JA d t ⟨s,0,k,v⟩).map tR)]:=by
 subst hn hm
 exact AiZ cap l d k1 k2 t s k v
def GD (lifo:Bool) (cap:Int) (l:List Int) (d:List Rst) (t s k v:Int):List Int × List Rst :=
 if k=8 then if (l.length:Int)≥cap then (l,JA d t ⟨s,0,10,0⟩) else (l++[v],JA d t ⟨s,0,0,0⟩)
 else if k=9 then (if l.length=0 then (l,JA d t ⟨s,0,10,0⟩) else if lifo then (l.take (l.length-1),JA d t ⟨s,0,0,l.getD (l.length-1) 0⟩) else (l.drop 1,JA d t ⟨s,0,0,l.getD 0 0⟩))
 else if k=5 then (l,JA d t ⟨s,0,0,l.length⟩)
 else if k=6 then (l,JA d t ⟨s,0,0,cap⟩)
 else (l,JA d t ⟨s,0,1,0⟩)
theorem YZ (cap:Int) (l:List Int) (d:List Rst) (t s k ar v:Int) (hl:l.length≤17592186044400) (hd:d.length≤4398046511104) :
  Cd Tryz.prog 270 [.agg [i64 cap,.ln (l.map tI),.ln (d.map tR)],i64 t,i64 s,.agg [i64 k,i64 ar,i64 v,.any,.any]]
   (.agg [i64 cap,.sl 0 0 (GD false cap l d t s k v).1.length,.sl 1 0 d.length]) [.row 0 3 1 ((GD false cap l d t s k v).1.map tI),.row 0 53 4 ((GD false cap l d t s k v).2.map tR)]:=by
 refine ZEN Tryz.func270 Tryz.ntmps270 ?_
 repeat' (first|(refine ZAL ?_;first|(refine kL 9034 rfl ?_;first|(refine uK (AcE _ _ _ ?zq0 ?zq1) ?_;(case zq0=>omega);(case zq1=>omega)))|(refine kL 9066 rfl ?_;first|(refine uI [3,4] (AgV _ _ _ _ _ _ _ _ _ ?zq0 ?zq1) ?_;(case zq0=>simp);(case zq1=>simp))|(refine uI [6,4] (AgV _ _ _ _ _ _ _ _ _ ?zq0 ?zq1) ?_;(case zq0=>simp);(case zq1=>simp)))|refine Df ?_|(refine kL 2634 rfl ?_;first|(refine uK (AR (l.drop 1) ?zq0) ?_;(case zq0=>simp;omega)))|refine uA ?_)|refine uC ?_|refine kcp rfl (fun hc=>?_) (fun hc=>?_)|fail)
 ·(refine Bm Tryz.results270 ?_ ?_ ?_<;>repeat' (first|exact ZE1|refine ZE2 ?_ ?_|refine ZE3 ?_|exact ZE4|fail))
  all_goals simp [GD,EN, *]
 ·(refine Bm Tryz.results270 ?_ ?_ ?_<;>repeat' (first|exact ZE1|refine ZE2 ?_ ?_|refine ZE3 ?_|exact ZE4|fail))
  all_goals simp [GD,EN, *]
 ·have hn:l=[]:=gT (by omega)
  subst hn
  (refine Bm Tryz.results270 ?_ ?_ ?_<;>repeat' (first|exact ZE1|refine ZE2 ?_ ?_|refine ZE3 ?_|exact ZE4|fail))
  all_goals simp [GD,EN, *]
 ·have hn:l≠[]:=by rintro rfl;simp at hc
  (refine Fin.mkv (rs:=_) Tryz.results270 (.cons (.agg rfl rfl ud125 rfl inf125 (us:=[_,_,_]) rfl rfl) .nil) [6,4] (by decide) rfl ?_ ?_ ?_<;>repeat' (first|exact ZE1|refine ZE2 ?_ ?_|refine ZE3 ?_|exact ZE4|fail))
  all_goals simp [GD,EN,List.map_tail, *]
 ·(refine Bm Tryz.results270 ?_ ?_ ?_<;>repeat' (first|exact ZE1|refine ZE2 ?_ ?_|refine ZE3 ?_|exact ZE4|fail))
  all_goals simp [GD,EN, *]
 ·(refine Bm Tryz.results270 ?_ ?_ ?_<;>repeat' (first|exact ZE1|refine ZE2 ?_ ?_|refine ZE3 ?_|exact ZE4|fail))
  all_goals simp [GD,EN, *]
 ·(refine Bm Tryz.results270 ?_ ?_ ?_<;>repeat' (first|exact ZE1|refine ZE2 ?_ ?_|refine ZE3 ?_|exact ZE4|fail))
  all_goals simp [GD,EN, *]
theorem AkN (s x:Nat) (h:x%2^(s+1)<2^s):x ||| 2^s=x+2^s:=by
 have e:x=2^(s+1)*(x/2^(s+1))+x%2^(s+1):=(Nat.div_add_mod _ _).symm
 have h1:(2^(s+1)*(x/2^(s+1)))%2^(s+1)=0:=Nat.mul_mod_right _ _
 generalize 2^(s+1)*(x/2^(s+1))=H at *
 generalize x%2^(s+1)=lo at *
 have h2:2^(s+1)=2*2^s:=by rw [Nat.pow_succ,lJ]
 have a1:H ||| lo=H+lo:=nat_join (s+1) H lo h1 (by omega)
 have a2:2^s ||| lo=2^s+lo:=nat_join s _ lo (Nat.mod_self _) h
 have a3:H ||| (2^s+lo)=H+(2^s+lo):=nat_join (s+1) H _ h1 (by omega)
 rw [e, ←a1,Nat.or_assoc,Nat.or_comm lo,a2,a3,a1];omega
theorem ArH (s:Nat) {a m M:Int} (hm:(2:Int)^s=m) (hM:m+m=M) (h0:0≤a) (hA:a<18446744073709551616) (hB:m<18446744073709551616) (h:a%M<m):bits .or .u64 a m=a+m:=by
 subst hM
 obtain ⟨x,rfl⟩ : ∃x:Nat,a=x:=⟨a.toNat,by omega⟩
 have e:m=((2^s:Nat):Int):=by rw [←hm];simp
 subst e
 rw [u64_or _ _ h0 hA (Int.natCast_nonneg _) hB,fW,fW,AkN s x]
 ·rw [Int.natCast_add]
 ·have h2:2^(s+1)=2*2^s:=by rw [Nat.pow_succ,lJ]
  rw [h2]
  have:((x%(2*2^s):Nat):Int)<((2^s:Nat):Int):=by
   rw [Int.natCast_emod]
   have e3:((2*2^s:Nat):Int)=((2^s:Nat):Int)+((2^s:Nat):Int):=by omega
   rw [e3];exact h
  exact_mod_cast this
def RD (q:AT):Int:=q.kind+256*q.cases.length+65536*q.arg+4294967296*q.value+4096*IX q.dflt
def HD (q:AT) (ph:Int):List Int:=RD q::(CQ (q.cases.map wordK) 3++[ph])
theorem AiG {q:AT} (hd:q.dflt=false) (ph:Int):HD q ph=KK q ph:=by unfold HD RD KK;rw [hd];simp [IX]
theorem AfD (q:AT) (ph:Int) (hq:BR q=true) (hd:q.dflt=true) (hp:0≤ph∧ph≤4294967295):Cd Tryz.prog 182 [aRq q,i64 ph] (.t (.lst ((HD q ph).map tU))) []:=by
 obtain ⟨g1,g2,g3,g4,g5⟩:=LS.1 hq
 have c1:=GK q (by omega)
 rw [hq] at c1
 have c2:=FM ph 32 4294967296 (by decide) (by decide)
 rw [show fitI ph 4294967296=true from fR (by omega)] at c2
 have h1:(q.cases.map tCs).length=q.cases.length:=fH _
 unfold HD RD
 rw [s9_ (by simpa using g4),fH]
 obtain ⟨kd,ar,vl,df,l⟩:=q
 dsimp only at *
 subst hd
 rw [show IX true=1 from rfl]
 generalize hH:kd+256*(l.length:Int)+65536*ar+4294967296*vl+4096*1=hd0
 have hH2:kd+((l.map tCs).length:Int)*256+ar*65536+vl*4294967296+4096=hd0:=by omega
 refine ZEN Tryz.func182 Tryz.ntmps182 ?_
 repeat' (first|(refine ZAL ?_;first|refine Ac ?_|(refine kL 1481 rfl ?_;first|refine A_shl rfl rfl 46 159 _ _ rfl rfl rfl (by decide) (shl_lit (m:=256) rfl bT) ?_|refine A_bits rfl rfl .or 46 46 _ _ rfl rfl rfl rfl (or_sum 8 (M:=256) rfl (by omega) (by omega) (by omega) (by omega) (by omega) (by omega)) ?_|refine A_bits rfl rfl .or 46 46 _ _ rfl rfl rfl rfl (or_sum' 8 (M:=256) rfl (by omega) (by omega) (by omega) (by omega) (by omega) (by omega)) ?_|refine A_bits rfl rfl .or 46 46 _ _ rfl rfl rfl rfl (or_sum 16 (M:=65536) rfl (by omega) (by omega) (by omega) (by omega) (by omega) (by omega)) ?_|refine A_bits rfl rfl .or 46 46 _ _ rfl rfl rfl rfl (or_sum' 16 (M:=65536) rfl (by omega) (by omega) (by omega) (by omega) (by omega) (by omega)) ?_|refine A_bits rfl rfl .or 46 46 _ _ rfl rfl rfl rfl (or_sum 32 (M:=4294967296) rfl (by omega) (by omega) (by omega) (by omega) (by omega) (by omega)) ?_|refine A_bits rfl rfl .or 46 46 _ _ rfl rfl rfl rfl (or_sum' 32 (M:=4294967296) rfl (by omega) (by omega) (by omega) (by omega) (by omega) (by omega)) ?_|refine A_shl rfl rfl 46 159 _ _ rfl rfl rfl (by decide) (shl_lit (m:=65536) rfl bT) ?_|refine A_shl rfl rfl 46 159 _ _ rfl rfl rfl (by decide) (shl_lit (m:=4294967296) rfl bT) ?_|refine A_bits rfl rfl .or 46 46 _ _ rfl rfl rfl rfl (ArH 12 (m:=4096) (M:=8192) rfl rfl (by omega) (by omega) (by omega) (by omega)) ?_|refine A_shl rfl rfl 46 159 _ _ rfl rfl rfl dI rfl ?_|refine A_bits rfl rfl .or 46 46 _ _ rfl rfl rfl rfl rfl ?_)|refine Bj ?_|refine uA ?_|refine uK (c1) ?_|refine uK (c2) ?_)|refine uC ?_|refine uS 12 (fun hb=>?_) (fun hb=>?_)|refine ZK2 (fun hc=>?_) (fun hc=>?_)|fail)
 all_goals try exact ZE5
 refine AW.loopP (fun (i:Nat)=>i≤l.length) (fun (i:Nat)=>(pu (pu (pu (pu (pu (fun _=>.any) 1 (i64 ph)) 6 (.sl 1 i (1+i))) 43 (.ln (l.map tCs))) 44 (i64 (l.map tCs).length)) 45 (i64 i))) (fun (i:Nat)=>[.box 32 [i64 kd,i64 ar,i64 vl,bo true,.ln (l.map tCs)],.row i 46 1 ((ES hd0 l i).map tU)]) (fun (i:Nat)=>l.length-i) (0) ?_ ?_ ?_
 ·exact fO _
 ·rw [show ES hd0 l 0=[hd0] from rfl, ←hH2]
  exact Wk.cq 2
 ·intro i h2
  have hL:(ES hd0 l i).length=1+i:=by simp [ES];omega
  by_cases hi:i<l.length
  ·obtain ⟨a,ha⟩ : ∃a,l[i]? = some a:=⟨_,ZgE hi⟩
   have hk:=EU.1 (g5 a (fI ha))
   have hw:wordK a=a.dir+a.handle*256+a.value*4294967296:=by unfold wordK;omega
   have hs:ES hd0 l (i+1)=ES hd0 l i++[a.dir+a.handle*256+a.value*4294967296]:=by unfold ES;rw [iG,ha, ←hw];simp
   repeat' (first|refine Fo ?_|refine uS 12 (fun hb=>?_) (fun hb=>?_)|refine ZK2 (fun hc=>?_) (fun hc=>?_)|fail)
   all_goals try exact ZE5
   refine ⟨i+1,by omega,by omega,?_⟩
   rw [hs]
   exact Wk.cq 2
  ·obtain rfl:i=l.length:=by omega
   repeat' (first|(refine ZAL ?_;first|refine Ac ?_|refine Cp ?_|refine Al ?_|refine uA ?_)|refine uC ?_|refine uS 12 (fun hb=>?_) (fun hb=>?_)|refine ZK2 (fun hc=>?_) (fun hc=>?_)|fail)
   all_goals try exact ZE5
   refine AW.loopP (fun (j:Nat)=>l.length+j≤3) (fun (j:Nat)=>(pu (pu (fun _=>.any) 1 (i64 ph)) 6 (.sl 1 (l.length+j) (1+l.length+j)))) (fun (j:Nat)=>[.box 32 [i64 kd,i64 ar,i64 vl,bo true,.ln (l.map tCs)],.row (l.length+j) 46 1 ((ET hd0 l j).map tU)]) (fun (j:Nat)=>3-j) (0) ?_ ?_ ?_
   ·omega
   ·rw [show ET hd0 l 0=ES hd0 l l.length by simp [ES,ET]]
    exact Wk.cq 2
   ·intro j h3
    have hL2:(ET hd0 l j).length=1+l.length+j:=by simp [ET];omega
    by_cases hj:l.length+j<3
    ·have hs:ET hd0 l (j+1)=ET hd0 l j++[0]:=by unfold ET;rw [lK];simp
     repeat' (first|refine Fo ?_|refine uS 12 (fun hb=>?_) (fun hb=>?_)|refine ZK2 (fun hc=>?_) (fun hc=>?_)|fail)
     all_goals try exact ZE5
     refine ⟨j+1,by omega,by omega,?_⟩
     rw [hs]
     exact Wk.cq 2
    ·obtain rfl:j=3-l.length:=by omega
     repeat' (first|refine F8 ?_|refine uS 12 (fun hb=>?_) (fun hb=>?_)|refine ZK2 (fun hc=>?_) (fun hc=>?_)|fail)
     all_goals first|(exfalso;omega)|((first|exact A5 Tryz.results182|refine A7 Tryz.results182 ?_|refine A8 Tryz.results182 ?_ ?_ ?_<;>repeat' (first|exact ZE1|refine ZE2 ?_ ?_|refine ZE3 ?_|exact ZE4|fail)))
     all_goals first|rfl|(simp [ET];done)|skip
theorem AfC (q:AT) (ph:Int) (hl:q.cases.length≤1152921504606846976) (hq:BR q=false):Cd Tryz.prog 182 [aRq q,i64 ph] (.t (.lst ([].map tU))) []:=by
 have c1:=GK q hl
 rw [hq] at c1
 dsimp only [aRq] at *
 refine ZEN Tryz.func182 Tryz.ntmps182 ?_
 repeat' (first|(refine ZAL ?_;first|refine E3 ?_|refine Ac ?_|refine Cp ?_|refine Al ?_|refine uA ?_|refine uK (c1) ?_)|refine uC ?_|refine uS 12 (fun hb=>?_) (fun hb=>?_)|refine ZK2 (fun hc=>?_) (fun hc=>?_)|fail)
 all_goals exact A4 Tryz.results182
end
def DR (w:Int):BD:=⟨w%256,w/256%65536,w/4294967296⟩
def ArD (w:Int):Bool:=decide ((w%256=1∨w%256=2)∧w/16777216%256=0)
def nR (h:Int):Nat:=(h/256%16).toNat
def reqR (h a b c:Int):AT:=⟨h%256,h/65536%65536,h/4294967296,decide (h/4096%2=1),([a,b,c].take (nR h)).map DR⟩
def KG (h a b c p:Int):Bool:=decide (p≤4294967295)&&decide (1≤h%256∧h%256≤9∧h/256%16≤3∧h/4096%16≤1)&&((List.range 3).all fun i=>if i<nR h then ArD ([a,b,c].getD i 0) else decide ([a,b,c].getD i 0=0))
theorem OP {w:Int} (h0:0≤w) (h1:w≤18446744073709551615):(CO (DR w)=true∧wordK (DR w)=w)↔ArD w=true:=by
 unfold CO wordK DR ArD
 simp only [fX,CB,gE]
 omega
theorem v8_ {h:Int} {n:Nat} (hn:h/256%16=n) (h0:0≤h) (h1:h≤18446744073709551615):h%256+256*(n:Int)+65536*(h/65536%65536)+4294967296*(h/4294967296)+4096*IX (decide (h/4096%2=1))=h↔h/4096%16≤1:=by
 unfold IX
 by_cases hd:h/4096%2=1
 ·rw [fR hd];simp only [jL];omega
 ·rw [fP hd];simp only [iC,jC];omega
theorem ArO {h a b c:Int} {n:Nat} (hn:h/256%16=n):nR h=n:=by unfold nR;rw [hn];exact fW n
theorem TY {h a b c p:Int} (hh:0≤h∧h≤18446744073709551615) (ha:0≤a∧a≤18446744073709551615) (hb:0≤b∧b≤18446744073709551615) (hc:0≤c∧c≤18446744073709551615) (hp:p≤4294967295) (h3:h/256%16≤3) :
  (BR (reqR h a b c)=true∧HD (reqR h a b c) p=[h,a,b,c,p])↔KG h a b c p=true:=by
 have wa:=OP ha.1 ha.2
 have wb:=OP hb.1 hb.2
 have wc:=OP hc.1 hc.2
 obtain ⟨n,hn⟩ : ∃n:Nat,h/256%16=n:=⟨(h/256%16).toNat,by omega⟩
 have hN:=ArO (a:=a) (b:=b) (c:=c) hn
 have hd:=v8_ hn hh.1 hh.2
 have k1:0≤h/65536%65536∧h/65536%65536≤65535:=by omega
 have k2:0≤h/4294967296∧h/4294967296≤4294967295:=by omega
 have hn3:n=0∨n=1∨n=2∨n=3:=by omega
 rcases hn3 with rfl|rfl|rfl|rfl
 all_goals
  simp only [KG,reqR,BR,HD,RD,hN,CQ,show List.range 3=[0,1,2] from rfl,jJ,iY,gO,gH,gB,fY,List.all_cons,List.all_nil,gS,gM,List.getD_cons_zero,List.getD_cons_succ,List.getD_nil,List.cons.injEq,and_true,Bool.and_true,fX,gE,CB,gK,Nat.reduceAdd,Nat.lt_irrefl,Nat.not_lt_zero,jC,Nat.reduceLT,jL,ite_true,ite_false]
  try simp only [←wa, ←wb, ←wc]
  rw [hd]
  try rw [eq_comm (a:=(0:Int)) (b:=c)]
  try rw [eq_comm (a:=(0:Int)) (b:=b)]
  try rw [eq_comm (a:=(0:Int)) (b:=a)]
  generalize wordK (DR a)=u at *
  generalize wordK (DR b)=v at *
  generalize wordK (DR c)=w at *
  constructor
  ·rintro ⟨q1,q2⟩
   simp_all
  ·rintro ⟨q1,q2⟩
   simp_all
section
attribute [local irreducible] AL AW RG Fin C Cd Cio AI AF AN
def TG (a:Int) (q:Nat):CN:=⟨IntKind.i64.wrap (a+q),0⟩
def newL (a:Int) (m:Nat):List CN:=(List.range m).map (TG a)
theorem w6_ (a:Int) (q:Nat):newL a (q+1)=newL a q++[TG a q]:=by unfold newL;rw [kD,iV];rfl
theorem MC (a:Int) (q:Nat):(newL a q).length=q:=by simp [newL]
structure NS where
 q:Nat
 F:List CN
 k:Nat
 n:Nat
theorem ArM (a n:Int):Cd Tryz.prog 159 [i64 a,i64 n] (.agg [i64 0,i64 0,.sl 0 0 (min (max n 0) 64).toNat,.nl,i64 0]) [.row 0 233 2 ((newL a (min (max n 0) 64).toNat).map tSl)]:=by
 obtain ⟨m,hm⟩ : ∃m:Nat,(min (max n 0) 64)=(m:Int):=⟨(min (max n 0) 64).toNat,by omega⟩
 rw [hm,fW]
 have hm64:m≤64:=by omega
 refine ZEN Tryz.func159 Tryz.ntmps159 ?_
 repeat' (first|(refine ZAL ?_;first|refine Fs ?_|refine Ft ?_|refine uA ?_)|refine uC ?_|refine ZK2 (fun hc=>?_) (fun hc=>?_)|fail)
 refine AW.wk (Wk.ownB 1 2 rfl rfl 233 2 (.push rfl rfl) rfl) ?_
 refine AW.loopP (fun (x:NS)=>x.q≤m∧x.F=newL a x.q∧x.n=x.q) (fun (x:NS)=>(pu (pu (pu (pu (pu (fun _=>.any) 0 (i64 a)) 4 (.ptr 0 0)) 5 (.ptr 1 0)) 9 (i64 (min (max n 0) 64))) 10 (i64 x.q))) (fun (x:NS)=>[.box 51 [i64 0,i64 0,.nl,.nl,i64 0],.box 51 [i64 0,i64 0,.sl 2 x.k x.n,.nl,i64 0],.row x.k 233 2 (x.F.map tSl)]) (fun (x:NS)=>m-x.q) (⟨0,[],0,0⟩) ?_ ?_ ?_
 ·exact ⟨fO _,rfl,rfl⟩
 ·exact Wk.cq 3
 ·rintro ⟨q,F,k,n'⟩ ⟨h2,h3,h4⟩
  dsimp only at h2 h3 h4 ⊢
  subst h4
  have h5:(F.map tSl).length=n':=by rw [fH,h3,MC]
  have h6:F.length=n':=by rw [h3,MC]
  by_cases hq:n'<m
  ·repeat' (first|(refine ZAL ?_;first|(refine kL 12 rfl ?_;first|refine DD rfl rfl _ _ 48 rfl ud48 inf233 rfl rfl rfl cY aA qB qB (by first|exact app_map aG|exact app_one (f:=tSl) (x:=TG a n') aG|exact qN) qN qS ?_|refine BL rfl rfl _ _ 48 rfl ud48 inf233 rfl rfl aA qB qB (by first|exact (rfl:_=List.map tSl [TG a n'])|exact qN) (.push qL qN) qS ?_|refine A_append_nlsub rfl rfl _ _ 48 rfl ud48 inf233 rfl rfl rfl rfl aK qB qB iW.symm (.push qL qN) ?_)|(refine kL 1551 rfl ?_;first|refine A_lit rfl rfl 48 1 _ rfl ud48 inf233 (.cons rfl .nil) (els:=[[_,_]]) rfl (by first|exact (rfl:_=List.map tSl [TG a n'])|exact qN) rfl (fT rfl) (ZbT rfl) (ZbT rfl) (.push qL qN) ?_)|(refine kL 1539 rfl ?_;first|refine A_store_rp rfl rfl 48 _ _ rfl n2_ (by decide) rfl rfl aI rfl rfl rfl (ZbT rfl) (by first|exact map_set (f:=tSl) (x:=TG a n')|exact qN) qN ?_)|(refine kL 1635 rfl ?_;first|refine A_store_rp rfl rfl 51 _ _ rfl inf51 (by decide) rfl rfl aI rfl rfl rfl (ZbT rfl) (by first|exact map_set (f:=tSl) (x:=TG a n')|exact qN) qN ?_)|refine uA ?_)|refine uC ?_|refine ZK2 (fun hc=>?_) (fun hc=>?_)|fail)
   all_goals try exact ZE5
   refine ⟨⟨n'+1,F++[TG a n'],k+1,n'+1⟩,⟨by dsimp only;omega,by dsimp only;rw [w6_,h3],rfl⟩,by dsimp only;omega,?_⟩
   exact Wk.cq 3
  ·have e:n'=m:=by omega
   subst e
   subst h3
   repeat' (first|(refine ZAL ?_;first|refine Fs ?_|refine Ft ?_|refine uA ?_)|refine uC ?_|refine ZK2 (fun hc=>?_) (fun hc=>?_)|fail)
   all_goals first|(exfalso;omega)|((first|exact Fin.q Tryz.results159 (.cons (.agg rfl rfl ud51 rfl inf51 (us:=[_,_,_,_,_]) rfl rfl) .nil) [2]|refine Fin.q Tryz.results159 (.cons (.agg rfl rfl ud51 rfl inf51 (us:=[_,_,_,_,_]) rfl rfl) .nil) [2] (hr:=(.t ?_))|refine Fin.mkv (rs:=_) Tryz.results159 (.cons (.agg rfl rfl ud51 rfl inf51 (us:=[_,_,_,_,_]) rfl rfl) .nil) [2] (by decide) rfl ?_ ?_ ?_<;>repeat' (first|exact ZE1|refine ZE2 ?_ ?_|refine ZE3 ?_|exact ZE4|fail)))
theorem CF (l:List CN) (h:l.length≤8796093022208):Cd Tryz.prog 199 [.ln (l.map tSl)] (.sl 0 0 l.length) [.row 0 233 2 (l.map tSl)]:=by
 refine ZEN Tryz.func199 Tryz.ntmps199 ?_
 repeat' (first|(refine ZAL ?_;first|(refine kL 1545 rfl ?_;first|refine DU rfl rfl 48 _ _ rfl ud48 rfl (fun b hb=>?_))|(refine kL 12 rfl ?_;first|refine DD rfl rfl _ _ 48 rfl ud48 inf233 rfl rfl rfl cY aA qB qB (by first|exact app_map aG|exact app_one (f:=tSl) (x:=⟨_,_⟩) aG|exact qN) qN qS ?_|refine BL rfl rfl _ _ 48 rfl ud48 inf233 rfl rfl aA qB qB (by first|exact (rfl:_=List.map tSl [⟨_,_⟩])|exact qN) (.push qL qN) qS ?_|refine A_append_nlsub rfl rfl _ _ 48 rfl ud48 inf233 rfl rfl rfl rfl aK qB qB iW.symm (.push qL qN) ?_)|refine uA ?_)|refine uC ?_|refine ZK2 (fun hc=>?_) (fun hc=>?_)|fail)
 ·have hl:l=[]:=by simpa using hb hc
  subst hl
  refine Fin.wk (Wk.own 2 rfl 233 2 (.push rfl rfl)) ?_
  (first|exact Ab Tryz.results199|refine Aj Tryz.results199 ?_|refine Ak Tryz.results199 ?_ ?_ ?_<;>repeat' (first|exact ZE1|refine ZE2 ?_ ?_|refine ZE3 ?_|exact ZE4|fail))
 ·(first|exact Ab Tryz.results199|refine Aj Tryz.results199 ?_|refine Ak Tryz.results199 ?_ ?_ ?_<;>repeat' (first|exact ZE1|refine ZE2 ?_ ?_|refine ZE3 ?_|exact ZE4|fail))
theorem CT (l:List CD) (h:l.length≤5864062014805):Cd Tryz.prog 200 [.ln (l.map tOd)] (.sl 0 0 l.length) [.row 0 236 3 (l.map tOd)]:=by
 refine ZEN Tryz.func200 Tryz.ntmps200 ?_
 repeat' (first|(refine ZAL ?_;first|(refine kL 1577 rfl ?_;first|refine DU rfl rfl 49 _ _ rfl ud49 rfl (fun b hb=>?_))|refine Fy ?_|refine uA ?_)|refine uC ?_|refine ZK2 (fun hc=>?_) (fun hc=>?_)|fail)
 ·have hl:l=[]:=by simpa using hb hc
  subst hl
  refine Fin.wk (Wk.own 2 rfl 236 3 (.push rfl rfl)) ?_
  (first|exact Ab Tryz.results200|refine Aj Tryz.results200 ?_|refine Ak Tryz.results200 ?_ ?_ ?_<;>repeat' (first|exact ZE1|refine ZE2 ?_ ?_|refine ZE3 ?_|exact ZE4|fail))
 ·(first|exact Ab Tryz.results200|refine Aj Tryz.results200 ?_|refine Ak Tryz.results200 ?_ ?_ ?_<;>repeat' (first|exact ZE1|refine ZE2 ?_ ?_|refine ZE3 ?_|exact ZE4|fail))
theorem pcopied_c (i t sp:Int) (fr:List CN) (ol:List CD) (hf:fr.length≤8796093022208) (ho:ol.length≤5864062014805) :
  Cd Tryz.prog 139 [.agg [i64 i,i64 t,.ln (fr.map tSl),.ln (ol.map tOd),i64 sp]] (.agg [i64 i,i64 t,.sl 0 0 fr.length,.sl 1 0 ol.length,i64 sp]) [.row 0 233 2 (fr.map tSl),.row 0 236 3 (ol.map tOd)]:=by
 refine ZEN Tryz.func139 Tryz.ntmps139 ?_
 repeat' (first|refine uA ?_|(refine ZRG ?_;first|(refine kR 6378 rfl ?_;first|(first|(refine uQ (CF _ ?zq0) 0 ?_;(case zq0=>assumption))|(refine uQ (CF _ ?zq0) 1 ?_;(case zq0=>assumption))|(refine uQ (CF _ ?zq0) 2 ?_;(case zq0=>assumption))|(refine uQ (CF _ ?zq0) 3 ?_;(case zq0=>assumption))|(refine uQ (CF _ ?zq0) 4 ?_;(case zq0=>assumption))|(refine uQ (CF _ ?zq0) 5 ?_;(case zq0=>assumption))|(refine uQ (CF _ ?zq0) 6 ?_;(case zq0=>assumption))|(refine uQ (CF _ ?zq0) 7 ?_;(case zq0=>assumption))|(refine uQ (CF _ ?zq0) 8 ?_;(case zq0=>assumption))|(refine uQ (CF _ ?zq0) 9 ?_;(case zq0=>assumption))|(refine uQ (CF _ ?zq0) 10 ?_;(case zq0=>assumption))|(refine uQ (CF _ ?zq0) 11 ?_;(case zq0=>assumption))|(refine uQ (CF _ ?zq0) 12 ?_;(case zq0=>assumption))|(refine uQ (CF _ ?zq0) 13 ?_;(case zq0=>assumption))))|(refine kR 6410 rfl ?_;first|(first|(refine uQ (CT _ ?zq0) 0 ?_;(case zq0=>assumption))|(refine uQ (CT _ ?zq0) 1 ?_;(case zq0=>assumption))|(refine uQ (CT _ ?zq0) 2 ?_;(case zq0=>assumption))|(refine uQ (CT _ ?zq0) 3 ?_;(case zq0=>assumption))|(refine uQ (CT _ ?zq0) 4 ?_;(case zq0=>assumption))|(refine uQ (CT _ ?zq0) 5 ?_;(case zq0=>assumption))|(refine uQ (CT _ ?zq0) 6 ?_;(case zq0=>assumption))|(refine uQ (CT _ ?zq0) 7 ?_;(case zq0=>assumption))|(refine uQ (CT _ ?zq0) 8 ?_;(case zq0=>assumption))|(refine uQ (CT _ ?zq0) 9 ?_;(case zq0=>assumption))|(refine uQ (CT _ ?zq0) 10 ?_;(case zq0=>assumption))|(refine uQ (CT _ ?zq0) 11 ?_;(case zq0=>assumption))|(refine uQ (CT _ ?zq0) 12 ?_;(case zq0=>assumption))|(refine uQ (CT _ ?zq0) 13 ?_;(case zq0=>assumption))))|refine uR ?_)|refine uC ?_|refine AW.drawU (id:=1) mixed 4 qR ?_|refine ZK2 (fun hc=>?_) (fun hc=>?_)|fail)
 all_goals ((first|exact Fin.q Tryz.results139 (.cons (.agg rfl rfl ud51 rfl inf51 (us:=[_,_,_,_,_]) rfl rfl) .nil) [2,3]|refine Fin.q Tryz.results139 (.cons (.agg rfl rfl ud51 rfl inf51 (us:=[_,_,_,_,_]) rfl rfl) .nil) [2,3] (hr:=(.t ?_))|refine G1 Tryz.results139 ?_ ?_ ?_<;>repeat' (first|exact ZE1|refine ZE2 ?_ ?_|refine ZE3 ?_|exact ZE4|fail)))
end
section
def good (i t:Int):Bool:=decide (0≤i∧i≤65534∧1≤t∧t≤4294967295)
variable {i t:Int}
theorem HG :good i t=true↔0≤i∧i≤65534∧1≤t∧t≤4294967295:=by unfold good;simp
def word (i t:Int):Int:=if good i t then t*65536+i+1 else 0
theorem AmO (h:good i t=false):word i t=0:=by unfold word;rw [h];rfl
theorem TA (h:good i t=true):word i t=t*65536+i+1:=by unfold word;rw [h];rfl
theorem PK (i t:Int):0≤word i t∧word i t<18446744073709551616:=by
 cases h:good i t
 ·rw [AmO h];omega
 ·have:=HG.1 h;rw [TA h];omega
def JM (x:Int):Bool:=decide (x%65536≠0∧1≤x/65536∧x/65536≤4294967295)
def rdI (x:Int):Int:=if JM x then x%65536-1 else 0
def rdT (x:Int):Int:=if JM x then x/65536 else 0
variable {x:Int}
theorem SI (h:x%65536≠0∧1≤x/65536∧x/65536≤4294967295):rdI x=x%65536-1∧rdT x=x/65536∧JM x=true:=by
 have hok:JM x=true:=fR h
 unfold rdI rdT;rw [fL hok,fL hok];exact ⟨rfl,rfl,hok⟩
def KX (i t last:Int):Bool:=decide (0≤t∧t<last∧t<4294967295∧0≤i∧i≤65534)
def nxI (i t last:Int):Int:=if KX i t last then i else 0
def nxT (i t last:Int):Int:=if KX i t last then t+1 else 0
variable {last:Int}
theorem AeW (h:0≤t∧t<last∧t<4294967295∧0≤i∧i≤65534):nxI i t last=i∧nxT i t last=t+1∧KX i t last=true:=by
 have hok:KX i t last=true:=fR h
 unfold nxI nxT;rw [fL hok,fL hok];exact ⟨rfl,rfl,hok⟩
theorem AxU (h : ¬(0≤t∧t<last∧t<4294967295∧0≤i∧i≤65534)):nxI i t last=0∧nxT i t last=0∧KX i t last=false:=by
 have hok:KX i t last=false:=fP h
 unfold nxI nxT;rw [hok];exact ⟨rfl,rfl,rfl⟩
theorem q4_ (h0:0≤x) (h1:x<18446744073709551616) (h:JM x=true):good (rdI x) (rdT x)=true∧word (rdI x) (rdT x)=x:=by
 have hx:x%65536≠0∧1≤x/65536∧x/65536≤4294967295:=by unfold JM at h;exact jI h
 obtain ⟨a,b,c⟩:=SI hx
 have hg:good (x%65536-1) (x/65536)=true:=HG.2 ⟨by omega,by omega,by omega,by omega⟩
 rw [a,b];exact ⟨hg,by rw [TA hg];omega⟩
theorem AlE (h:good i t=true):JM (word i t)=true∧rdI (word i t)=i∧rdT (word i t)=t:=by
 obtain ⟨a,b,c,d⟩:=HG.1 h
 rw [TA h]
 obtain ⟨x,y,z⟩:=SI (x:=t*65536+i+1) ⟨by omega,by omega,by omega⟩
 exact ⟨z,by rw [x];omega,by rw [y];omega⟩
end
section
attribute [local irreducible] AL AW RG Fin C Cd Cio AI AF AN
def PB (i t:Int):Bool:=decide (0≤i∧i≤65534∧1≤t∧t≤4294967295)
def wordF (i t:Int):Int:=if PB i t then t*65536+(i+1) else 0
def KL (w:Int):Bool:=decide (w%65536≠0∧w/65536≠0∧w/65536≤4294967295)
def y5_ (w:Int):Int:=if KL w then w%65536-1 else 0
def y6_ (w:Int):Int:=if KL w then w/65536 else 0
theorem m7_ (i t:Int):Cd Tryz.prog 136 [.agg [i64 i,i64 t]] (bo (PB i t)) []:=by
 unfold PB
 have cs:i<0∨(0≤i∧65534<i)∨(0≤i∧i≤65534∧t<1)∨(0≤i∧i≤65534∧1≤t∧4294967295<t)∨(0≤i∧i≤65534∧1≤t∧t≤4294967295):=by omega
 rcases cs with h|h|h|h|h
 case inr.inr.inr.inr =>
  rw [fR h]
  refine ZEN Tryz.func136 Tryz.ntmps136 ?_
  repeat' (first|refine A0 ?_|refine uS 6 (fun hb=>?_) (fun hb=>?_)|refine uS 11 (fun hb=>?_) (fun hb=>?_)|refine uS 16 (fun hb=>?_) (fun hb=>?_)|refine ZK2 (fun hc=>?_) (fun hc=>?_)|fail)
  all_goals first|(exfalso;omega)|((first|exact A5 Tryz.results136|refine A7 Tryz.results136 ?_|refine A8 Tryz.results136 ?_ ?_ ?_<;>repeat' (first|exact ZE1|refine ZE2 ?_ ?_|refine ZE3 ?_|exact ZE4|fail)))
 all_goals
  rw [fP (by omega)]
  refine ZEN Tryz.func136 Tryz.ntmps136 ?_
  repeat' (first|refine A0 ?_|refine uS 6 (fun hb=>?_) (fun hb=>?_)|refine uS 11 (fun hb=>?_) (fun hb=>?_)|refine uS 16 (fun hb=>?_) (fun hb=>?_)|refine ZK2 (fun hc=>?_) (fun hc=>?_)|fail)
  all_goals first|(exfalso;omega)|((first|exact A5 Tryz.results136|refine A7 Tryz.results136 ?_|refine A8 Tryz.results136 ?_ ?_ ?_<;>repeat' (first|exact ZE1|refine ZE2 ?_ ?_|refine ZE3 ?_|exact ZE4|fail)))
theorem WI (i t:Int):Cd Tryz.prog 92 [.agg [i64 i,i64 t]] (u64 (wordF i t)) []:=by
 have c1:=m7_ i t
 unfold wordF
 cases h:PB i t
 ·rw [h] at c1
  rw [fM (by simp)]
  refine ZEN Tryz.func92 Tryz.ntmps92 ?_
  repeat' (first|(refine ZAL ?_;first|refine G3 ?_|refine uA ?_|refine uK (c1) ?_)|refine uC ?_|refine ZK2 (fun hc=>?_) (fun hc=>?_)|fail)
  all_goals exact A4 Tryz.results92
 ·rw [h] at c1
  rw [fL rfl]
  unfold PB at h
  have hg:=jI h
  refine ZEN Tryz.func92 Tryz.ntmps92 ?_
  repeat' (first|(refine ZAL ?_;first|refine G3 ?_|refine uA ?_|refine uK (c1) ?_)|refine uC ?_|refine ZK2 (fun hc=>?_) (fun hc=>?_)|fail)
  all_goals exact A4 Tryz.results92
theorem AiY (w:Int) (hw:0≤w∧w≤18446744073709551615):Cd Tryz.prog 55 [u64 w] (.tup [.agg [i64 (y5_ w),i64 (y6_ w)],bo (KL w)]) []:=by
 have c1:=WI (w%65536-1) (w/65536%4294967296)
 unfold y5_ y6_
 cases h:KL w
 ·unfold KL at h
  have hn:=of_decide_eq_false h
  have hv:wordF (w%65536-1) (w/65536%4294967296)≠w∨(w=0∧wordF (w%65536-1) (w/65536%4294967296)=0):=by
   unfold wordF PB
   split
   ·rename_i hg
    have hg:=jI hg
    omega
   ·omega
  generalize wordF (w%65536-1) (w/65536%4294967296)=v at *
  rw [fM (by simp),fM (by simp)]
  clear h hn
  rcases hv with hv|⟨hv,hv2⟩
  ·refine ZEN Tryz.func55 Tryz.ntmps55 ?_
   repeat' (first|refine E5 ?_|refine uS 18 (fun hb=>?_) (fun hb=>?_)|refine ZK2 (fun hc=>?_) (fun hc=>?_)|fail)
   all_goals exact B6 Tryz.results55
  ·subst hv hv2
   refine ZEN Tryz.func55 Tryz.ntmps55 ?_
   repeat' (first|refine E5 ?_|refine uS 18 (fun hb=>?_) (fun hb=>?_)|refine ZK2 (fun hc=>?_) (fun hc=>?_)|fail)
   all_goals exact B6 Tryz.results55
 ·unfold KL at h
  have hg:=jI h
  have hv:wordF (w%65536-1) (w/65536%4294967296)=w:=by
   unfold wordF PB
   rw [fL (fR (by omega))]
   omega
  rw [hv] at c1
  rw [fL rfl,fL rfl]
  have e:w/65536%4294967296=w/65536:=by omega
  clear h hv
  rw [←e]
  refine ZEN Tryz.func55 Tryz.ntmps55 ?_
  repeat' (first|refine E5 ?_|refine uS 18 (fun hb=>?_) (fun hb=>?_)|refine ZK2 (fun hc=>?_) (fun hc=>?_)|fail)
  all_goals exact B6 Tryz.results55
theorem AcQ (w:Int) (hw:0≤w∧w≤18446744073709551615):Cd Tryz.prog 32 [u64 w] (.tup [.agg [i64 (y5_ w),i64 (y6_ w)],bo (KL w)]) []:=by
 unfold y5_ y6_ KL
 have cs:w%65536=0∨(w%65536≠0∧w/65536=0)∨(w%65536≠0∧w/65536≠0∧4294967295<w/65536)∨(w%65536≠0∧w/65536≠0∧w/65536≤4294967295):=by omega
 rcases cs with h|h|h|h
 case inr.inr.inr =>
  rw [fR h,fL rfl,fL rfl]
  refine ZEN Tryz.func32 Tryz.ntmps32 ?_
  repeat' (first|refine A0 ?_|refine uS 12 (fun hb=>?_) (fun hb=>?_)|refine uS 16 (fun hb=>?_) (fun hb=>?_)|refine ZK2 (fun hc=>?_) (fun hc=>?_)|fail)
  all_goals first|(exfalso;omega)|((first|exact Fin.q Tryz.results32 (.cons (.agg rfl rfl ud45 rfl inf45 (us:=[_,_]) rfl rfl) (.cons (.tmp rfl) .nil)) []|refine G6 Tryz.results32 ?_ ?_|refine G7 Tryz.results32 ?_ ?_ ?_<;>repeat' (first|exact ZE1|refine ZE2 ?_ ?_|refine ZE3 ?_|exact ZE4|fail)))
 all_goals
  rw [fP (by omega),fM (by simp),fM (by simp)]
  refine ZEN Tryz.func32 Tryz.ntmps32 ?_
  repeat' (first|refine A0 ?_|refine uS 12 (fun hb=>?_) (fun hb=>?_)|refine uS 16 (fun hb=>?_) (fun hb=>?_)|refine ZK2 (fun hc=>?_) (fun hc=>?_)|fail)
  all_goals first|(exfalso;omega)|((first|exact Fin.q Tryz.results32 (.cons (.agg rfl rfl ud45 rfl inf45 (us:=[_,_]) rfl rfl) (.cons (.tmp rfl) .nil)) []|refine G6 Tryz.results32 ?_ ?_|refine G7 Tryz.results32 ?_ ?_ ?_<;>repeat' (first|exact ZE1|refine ZE2 ?_ ?_|refine ZE3 ?_|exact ZE4|fail)))
theorem AtK (i t:Int):wordF i t=word i t:=by
 unfold wordF word PB good
 split
 ·omega
 ·rfl
theorem ML {w:Int} (h:0≤w):KL w=JM w:=by
 unfold KL JM
 rw [kV]
 omega
theorem q6_ {w:Int} (h:0≤w):y5_ w=rdI w:=by unfold y5_ rdI;rw [ML h]
theorem q7_ {w:Int} (h:0≤w):y6_ w=rdT w:=by unfold y6_ rdT;rw [ML h]
theorem ApO (i t:Int):Cd Tryz.prog 136 [.agg [i64 i,i64 t]] (bo (good i t)) []:=m7_ i t
theorem LG (i t:Int):Cd Tryz.prog 92 [.agg [i64 i,i64 t]] (u64 (word i t)) []:=by
 have:=WI i t
 rwa [AtK] at this
theorem AfT (x:Int) (h0:0≤x) (h1:x<18446744073709551616):Cd Tryz.prog 55 [u64 x] (.tup [.agg [i64 (rdI x),i64 (rdT x)],bo (JM x)]) []:=by
 have:=AiY x ⟨h0,by omega⟩
 rwa [q6_ h0,q7_ h0,ML h0] at this
theorem AlG (x:Int) (h0:0≤x) (h1:x<18446744073709551616):Cd Tryz.prog 32 [u64 x] (.tup [.agg [i64 (rdI x),i64 (rdT x)],bo (JM x)]) []:=by
 have:=AcQ x ⟨h0,by omega⟩
 rwa [q6_ h0,q7_ h0,ML h0] at this
theorem AqY (i t last:Int):Cd Tryz.prog 246 [.agg [i64 i,i64 t],i64 last] (.tup [.agg [i64 (nxI i t last),i64 (nxT i t last)],bo (KX i t last)]) []:=by
 have c1:=ApO i (t+1)
 by_cases h:0≤t∧t<last∧t<4294967295∧0≤i∧i≤65534
 ·obtain ⟨e1,e2,e3⟩:=AeW h
  rw [e1,e2,e3]
  rw [show good i (t+1)=true from HG.2 (by omega)] at c1
  refine ZEN Tryz.func246 Tryz.ntmps246 ?_
  repeat' (first|refine A6 ?_|refine uS 15 (fun hb=>?_) (fun hb=>?_)|refine ZK2 (fun hc=>?_) (fun hc=>?_)|fail)
  all_goals exact B6 Tryz.results246
 ·obtain ⟨e1,e2,e3⟩:=AxU h
  rw [e1,e2,e3]
  by_cases h1:t<0
  ·refine ZEN Tryz.func246 Tryz.ntmps246 ?_
   repeat' (first|refine A6 ?_|refine uS 15 (fun hb=>?_) (fun hb=>?_)|refine ZK2 (fun hc=>?_) (fun hc=>?_)|fail)
   all_goals exact B6 Tryz.results246
  ·by_cases h2:last≤t∨4294967295≤t
   ·refine ZEN Tryz.func246 Tryz.ntmps246 ?_
    repeat' (first|refine A6 ?_|refine uS 15 (fun hb=>?_) (fun hb=>?_)|refine ZK2 (fun hc=>?_) (fun hc=>?_)|fail)
    all_goals exact B6 Tryz.results246
   ·have hg:good i (t+1)=false:=by
     unfold good
     exact fP (by omega)
    rw [hg] at c1
    refine ZEN Tryz.func246 Tryz.ntmps246 ?_
    repeat' (first|refine A6 ?_|refine uS 15 (fun hb=>?_) (fun hb=>?_)|refine ZK2 (fun hc=>?_) (fun hc=>?_)|fail)
    all_goals exact B6 Tryz.results246
structure TS where
 i:Int
 t:Int
 sp:Int
 F:List CN
def takeL (last i t:Int):Int→List CN→TS
 |sp,[]=>⟨i,t,sp,[]⟩
 |sp,s::r=>if t≠0 then ⟨i,t,sp,s::r⟩ else if KX s.index s.tag last then ⟨nxI s.index s.tag last,nxT s.index s.tag last,sp,r⟩ else takeL last i t (IntKind.i64.wrap (sp+1)) r
theorem AkR {i t last:Int} (h:KX i t last=true):nxT i t last≠0:=by
 have h':0≤t∧t<last∧t<4294967295∧0≤i∧i≤65534:=by unfold KX at h;simpa using h
 rw [(AeW h').2.1];omega
theorem OL {last i t sp:Int} {l:List CN} (h:t≠0):takeL last i t sp l=⟨i,t,sp,l⟩:=by
 cases l with
 |nil=>rfl
 |cons s r=>unfold takeL;rw [fL h]
theorem VG {last i t:Int} : ∀(l:List CN) (sp:Int),(takeL last i t sp l).F.length≤l.length
 | [],sp=>fN _
 | s::r,sp=>by
  unfold takeL
  split
  ·exact fN _
  ·split
   ·simp
   ·have:=VG (last:=last) (i:=i) (t:=t) r (IntKind.i64.wrap (sp+1));simp only [fY];omega
structure TL where
 i:Int
 t:Int
 sp:Int
 F:List CN
theorem AtD (last i t sp:Int) (fr:List CN) (ol:List CD) (hf:fr.length≤8796093022208) (ho:ol.length≤5864062014805) :
  Cd Tryz.prog 214 [.agg [i64 i,i64 t,.ln (fr.map tSl),.ln (ol.map tOd),i64 sp],i64 last]
   (.tup [.agg [i64 (takeL last i t sp fr).i,i64 (takeL last i t sp fr).t,.sl 0 0 (takeL last i t sp fr).F.length,.t (.lst (ol.map tOd)),i64 (takeL last i t sp fr).sp],bo (decide ((takeL last i t sp fr).t≠0))])
   [.row 0 233 2 ((takeL last i t sp fr).F.map tSl)]:=by
 refine ZEN Tryz.func214 Tryz.ntmps214 ?_
 repeat' (first|(refine ZAL ?_;first|(refine kL 4458 rfl ?_;first|((refine AhO (d:=11) rfl rfl Tryz.func139 rfl (pcopied_c i t sp fr ol ?zq0 ?zq1) ?_;(case zq0=>omega);(case zq1=>omega));(try refine uf 2 11 ?_);(try refine uf 3 11 ?_)))|refine uA ?_)|refine uR ?_|refine uC ?_|refine AW.drawU (id:=10) mixed 0 qR ?_|refine uS 16 (fun hb=>?_) (fun hb=>?_)|refine ZK2 (fun hc=>?_) (fun hc=>?_)|fail)
 refine AW.loopP (fun (x:TL)=>takeL last x.i x.t x.sp x.F=takeL last i t sp fr∧x.F.length≤fr.length) (fun (x:TL)=>(pu (pu (pu (pu (pu (fun _=>.any) 1 (i64 last)) 2 (.ptr 0 0)) 4 (.ptr 1 0)) 5 (bo false)) 6 (.ptr 4 0))) (fun (x:TL)=>[.box 51 [i64 i,i64 t,.ln (fr.map tSl),.ln (ol.map tOd),i64 sp],.box 51 [i64 0,i64 0,.nl,.nl,i64 0],.gone 0,.gone 0,.box 51 [i64 x.i,i64 x.t,.t (.lst (x.F.map tSl)),.t (.lst (ol.map tOd)),i64 x.sp]]) (fun (x:TL)=>x.F.length) (⟨i,t,sp,fr⟩) ?_ ?_ ?_
 ·exact ⟨rfl,fN _⟩
 ·exact Wk.cq 5
 ·rintro ⟨i',t',sp',F⟩ ⟨h2,h3⟩
  dsimp only at h2 h3 ⊢
  rw [←h2]
  have h5:(F.map tSl).length=F.length:=fH _
  by_cases ht:t'=0
  ·by_cases hF0:F=[]
   ·subst hF0 ht
    repeat' (first|(refine ZAL ?_;first|(refine kL 6378 rfl ?_;first|(refine uK (CF [] ?zq0) ?_;(case zq0=>simp)))|refine uA ?_)|refine uR ?_|refine uC ?_|refine AW.drawU (id:=10) mixed 0 qR ?_|refine uS 16 (fun hb=>?_) (fun hb=>?_)|refine ZK2 (fun hc=>?_) (fun hc=>?_)|fail)
    all_goals first|(exfalso;omega)|((first|exact Fin.q Tryz.results214 (.cons (.agg rfl rfl ud51 rfl inf51 (us:=[_,_,_,_,_]) rfl rfl) (.cons (.tmp rfl) .nil)) [5]|refine G8 Tryz.results214 ?_ ?_|refine G9 Tryz.results214 ?_ ?_ ?_<;>repeat' (first|exact ZE1|refine ZE2 ?_ ?_|refine ZE3 ?_|exact ZE4|fail)))
    all_goals first|rfl|simp [takeL]
   ·obtain ⟨s,r,hF⟩:=List.exists_cons_of_ne_nil hF0
    have h7:F.length=r.length+1:=by rw [hF];rfl
    have hr:(F.drop 1).take (F.length-1)=r:=by rw [hF];simp
    have hs1:F[0]? = some s:=by rw [hF];rfl
    have c1:=AqY s.index s.tag last
    cases hn:KX s.index s.tag last
    ·rw [hn] at c1
     repeat' (first|refine Ga ?_|refine uS 16 (fun hb=>?_) (fun hb=>?_)|refine ZK2 (fun hc=>?_) (fun hc=>?_)|fail)
     all_goals try exact ZE5
     refine ⟨⟨i',t',IntKind.i64.wrap (sp'+1),(F.drop 1).take (F.length-1)⟩,⟨by dsimp only;rw [hr,hF];conv=>rhs;unfold takeL;rw [fM (by simp [ht]),fM (by simp [hn])],by dsimp only;rw [hr];omega⟩,by dsimp only;rw [hr];omega,?_⟩
     exact Wk.cq 5
    ·rw [hn] at c1
     have hpos:=AkR hn
     repeat' (first|refine Ga ?_|refine uS 16 (fun hb=>?_) (fun hb=>?_)|refine ZK2 (fun hc=>?_) (fun hc=>?_)|fail)
     all_goals try exact ZE5
     refine ⟨⟨nxI s.index s.tag last,nxT s.index s.tag last,sp',(F.drop 1).take (F.length-1)⟩,⟨by dsimp only;rw [OL hpos,hr,hF];conv=>rhs;unfold takeL;rw [fM (by simp [ht]),fL (by simp [hn])],by dsimp only;rw [hr];omega⟩,by dsimp only;rw [hr];omega,?_⟩
     exact Wk.cq 5
  ·rw [OL ht]
   repeat' (first|(refine ZAL ?_;first|(refine kL 6378 rfl ?_;first|(refine uK (CF F ?zq0) ?_;(case zq0=>omega)))|refine uA ?_)|refine uR ?_|refine uC ?_|refine AW.drawU (id:=10) mixed 0 qR ?_|refine uS 16 (fun hb=>?_) (fun hb=>?_)|refine ZK2 (fun hc=>?_) (fun hc=>?_)|fail)
   all_goals first|(exfalso;omega)|((first|exact Fin.q Tryz.results214 (.cons (.agg rfl rfl ud51 rfl inf51 (us:=[_,_,_,_,_]) rfl rfl) (.cons (.tmp rfl) .nil)) [5]|refine G8 Tryz.results214 ?_ ?_|refine G9 Tryz.results214 ?_ ?_ ?_<;>repeat' (first|exact ZE1|refine ZE2 ?_ ?_|refine ZE3 ?_|exact ZE4|fail)))
   all_goals first|rfl|(simp [ht];done)|skip
def osl (o:CD):CN:=⟨o.ref.index,o.ref.tag⟩
def FH (pr:CD→Bool) (fr:List CN) (ol:List CD):List CN:=fr++(ol.filter pr).map osl
def FV (pr:CD→Bool) (ol:List CD):List CD:=ol.filter fun o => !pr o
theorem QZ {pr:CD→Bool} {fr:List CN} {ol:List CD} {q:Nat} {o:CD} (h:ol[q]? = some o):FH pr fr (ol.take (q+1))=if pr o then FH pr fr (ol.take q)++[osl o] else FH pr fr (ol.take q):=by
 unfold FH
 rw [iG,h,lE,iV]
 cases hp:pr o<;>simp [hp]
theorem UI {pr:CD→Bool} {ol:List CD} {q:Nat} {o:CD} (h:ol[q]? = some o):FV pr (ol.take (q+1))=if pr o then FV pr (ol.take q) else FV pr (ol.take q)++[o]:=by
 unfold FV
 rw [iG,h,lE]
 cases hp:pr o<;>simp [hp]
theorem QV (pr:CD→Bool) : ∀ol:List CD,(ol.filter pr).length+(ol.filter fun o => !pr o).length=ol.length
 | []=>rfl
 |o::ol=>by
  have:=QV pr ol
  cases hp:pr o<;>simp [hp]<;>omega
theorem UR (pr:CD→Bool) (fr:List CN) (ol:List CD):(FH pr fr ol).length+(FV pr ol).length=fr.length+ol.length:=by
 unfold FH FV
 rw [fJ,fH]
 have:=QV pr ol
 omega
theorem AlM (a b:Int):Cd Tryz.prog 253 [.agg [i64 a,i64 b]] (.agg [i64 a,i64 b]) []:=by
 refine ZEN Tryz.func253 Tryz.ntmps253 ?_
 repeat' (first|refine A0 ?_|refine ZK2 (fun hc=>?_) (fun hc=>?_)|fail)
 all_goals ((first|exact Fin.q Tryz.results253 (.cons (.agg rfl rfl e5_ rfl inf233 (us:=[_,_]) rfl rfl) .nil) []|refine Fin.q Tryz.results253 (.cons (.agg rfl rfl e5_ rfl inf233 (us:=[_,_]) rfl rfl) .nil) [] (hr:=(.t ?_))|refine Fin.mkv (rs:=_) Tryz.results253 (.cons (.agg rfl rfl e5_ rfl inf233 (us:=[_,_]) rfl rfl) .nil) [] (by decide) rfl ?_ ?_ ?_<;>repeat' (first|exact ZE1|refine ZE2 ?_ ?_|refine ZE3 ?_|exact ZE4|fail)))
structure BS where
 q:Nat
 F:List CN
 G:List CD
 kf:Nat
 kg:Nat
 nf:Nat
 ng:Nat
theorem AbG (f:FuncId) (fi cap:List AV) (pr:CD→Bool) (hg : ∀o:CD,CV Tryz.prog (.fn (.func f) fi cap) [.agg ((tOd o).map .t)] (.t (.v (.bool (pr o)))) []) (hup:upB (CK 6) (.fn (.func f) fi cap) = .fn (.func f) fi cap)
  (i t sp:Int) (fr:List CN) (ol:List CD) (hs:fr.length+ol.length≤5864062014805) :
  Cd Tryz.prog 225 [.agg [i64 i,i64 t,.ln (fr.map tSl),.ln (ol.map tOd),i64 sp],.fn (.func f) fi cap] (.tup [.agg [i64 i,i64 t,.sl 0 0 (FH pr fr ol).length,.sl 1 0 (FV pr ol).length,i64 sp],i64 ((ol.length:Int)-(FV pr ol).length)])
   [.row 0 233 2 ((FH pr fr ol).map tSl),.row 0 236 3 ((FV pr ol).map tOd)]:=by
 have h1:(ol.map tOd).length=ol.length:=fH _
 have hpl:=fun q=>UR pr fr (ol.take q)
 refine ZEN Tryz.func225 Tryz.ntmps225 ?_
 repeat' (first|(refine ZAL ?_;first|(refine kL 4458 rfl ?_;first|(refine uK (pcopied_c i t sp fr ol ?zq0 ?zq1) ?_;(case zq0=>omega);(case zq1=>omega)))|refine Fy ?_|(refine kL 1583 rfl ?_;first|refine A_lit rfl rfl 49 1 _ rfl ud49 inf236 (.cons rfl .nil) (els:=[[_,_,_]]) rfl bG rfl (fT rfl) (ZbT rfl) (ZbT rfl) (.push qL qN) ?_)|refine uA ?_)|(refine ZRG ?_;first|(refine kR 1551 rfl ?_;first|refine R_lit rfl rfl 48 1 _ rfl ud48 inf233 (.cons rfl .nil) (els:=[[_,_]]) rfl bG rfl (fT rfl) (ZbT rfl) (ZbT rfl) qh qN ?_)|refine uR ?_)|refine uC ?_|refine E7 ?_|refine ZK2 (fun hc=>?_) (fun hc=>?_)|fail)
 refine AW.wk (Wk.ownB 4 3 rfl rfl 236 3 (.push rfl rfl) rfl) ?_
 refine AW.loopP (fun (x:BS)=>x.q≤ol.length∧x.F=FH pr fr (ol.take x.q)∧x.G=FV pr (ol.take x.q)∧x.nf=x.F.length∧x.ng=x.G.length) (fun (x:BS)=>(pu (pu (pu (pu (pu (pu (pu (pu (fun _=>.any) 1 (.fn (.func f) fi cap)) 2 (.ptr 0 0)) 4 (.ptr 1 0)) 5 (i64 0)) 6 (.ptr 4 0)) 13 (.ln (ol.map tOd))) 14 (i64 (ol.map tOd).length)) 15 (i64 x.q))) (fun (x:BS)=>[.box 51 [i64 i,i64 t,.ln (fr.map tSl),.ln (ol.map tOd),i64 sp],.box 51 [i64 0,i64 0,.nl,.nl,i64 0],.row x.kf 233 2 (x.F.map tSl),.row 0 236 3 (ol.map tOd),.box 51 [i64 i,i64 t,.sl 2 x.kf x.nf,.sl 5 x.kg x.ng,i64 sp],.row x.kg 236 3 (x.G.map tOd)]) (fun (x:BS)=>ol.length-x.q) (⟨0,fr,[],0,0,fr.length,0⟩) ?_ ?_ ?_
 ·exact ⟨fO _,by simp [FH],by simp [FV],rfl,rfl⟩
 ·exact Wk.cq 6
 ·rintro ⟨q,F,G,kf,kg,nf,ng⟩ ⟨h2,h3,h4,h5,h6⟩
  dsimp only at h2 h3 h4 h5 h6 ⊢
  subst h5 h6
  have h7:=hpl q
  rw [←h3, ←h4,fQ,kC h2] at h7
  have h8:(F.map tSl).length=F.length:=fH _
  have h9:(G.map tOd).length=G.length:=fH _
  by_cases hq:q<ol.length
  ·obtain ⟨o,ho⟩ : ∃o,ol[q]? = some o:=⟨_,ZgE hq⟩
   repeat' (first|(refine ZAL ?_;first|(refine kL 1635 rfl ?_;first|refine A_store_rp rfl rfl 51 _ _ rfl inf51 (by decide) rfl rfl aI rfl rfl rfl (ZbT rfl) bJ qN ?_)|(refine kL 1571 rfl ?_;first|refine A_store_rp rfl rfl 49 _ _ rfl n3_ (by decide) rfl rfl aI rfl rfl rfl (ZbT rfl) bJ qN ?_)|(refine kL 12 rfl ?_;first|refine DD rfl rfl _ _ 49 rfl ud49 inf236 rfl rfl rfl cY aA qB qB fA qN qS ?_|refine BL rfl rfl _ _ 49 rfl ud49 inf236 rfl rfl aA qB qB bY (.push qL qN) qS ?_|refine A_append_nlsub rfl rfl _ _ 49 rfl ud49 inf236 rfl rfl rfl rfl aK qB qB iW.symm (.push qL qN) ?_)|(refine kL 7555 rfl ?_;first|refine A_store_rp rfl rfl 236 _ _ rfl inf236 (by decide) rfl rfl aI rfl rfl rfl (ZbT rfl) bJ qN ?_)|(refine kL 1583 rfl ?_;first|refine A_lit rfl rfl 49 1 _ rfl ud49 inf236 (.cons rfl .nil) (els:=[[_,_,_]]) rfl bY rfl (fT rfl) (ZbT rfl) (ZbT rfl) (.push qL qN) ?_)|refine uA ?_|refine uV (hg o) ?_)|(refine ZRG ?_;first|(refine kR 1551 rfl ?_;first|refine R_lit rfl rfl 48 1 _ rfl ud48 inf233 (.cons rfl .nil) (els:=[[_,_]]) rfl bY rfl (fT rfl) (ZbT rfl) (ZbT rfl) qh qN ?_)|(refine kR 12 rfl ?_;first|refine R_append rfl rfl _ _ 48 rfl ud48 inf233 rfl rfl rfl cY aA qB qB fA qN qS ?_|refine CR rfl rfl _ _ 48 rfl ud48 inf233 rfl rfl aA qB qB bY qh qN qS ?_)|(refine kR 1539 rfl ?_;first|refine R_store_rp rfl rfl 48 _ _ rfl n2_ (by decide) rfl rfl aI rfl rfl rfl (ZbT rfl) bJ qN ?_)|(refine kR 1635 rfl ?_;first|refine R_store_rp rfl rfl 51 _ _ rfl inf51 (by decide) rfl rfl aI rfl rfl rfl (ZbT rfl) bJ qN ?_)|refine uR ?_|refine AZ (AlM _ _) ?_)|refine uC ?_|refine E7 ?_|refine ZK2 (fun hc=>?_) (fun hc=>?_)|fail)
   all_goals try exact ZE5
   ·refine ⟨⟨q+1,F++[osl o],G,kf+1,kg,F.length+1,G.length⟩,⟨by dsimp only;omega,by dsimp only;rw [QZ ho,fL hc,h3],by dsimp only;rw [UI ho,fL hc,h4],by simp,rfl⟩,by dsimp only;omega,?_⟩
    exact Wk.cq 6
   ·refine ⟨⟨q+1,F,G++[o],kf,kg+1,F.length,G.length+1⟩,⟨by dsimp only;omega,by dsimp only;rw [QZ ho,fM (by simp [hc]),h3],by dsimp only;rw [UI ho,fM (by simp [hc]),h4],rfl,by simp⟩,by dsimp only;omega,?_⟩
    exact Wk.cq 6
  ·have e:q=ol.length:=by omega
   subst e
   rw [jT] at h3 h4
   subst h3 h4
   repeat' (first|(refine ZAL ?_;first|(refine kL 1635 rfl ?_;first|refine A_store_rp rfl rfl 51 _ _ rfl inf51 (by decide) rfl rfl aI rfl rfl rfl (ZbT rfl) bM qN ?_)|(refine kL 1571 rfl ?_;first|refine A_store_rp rfl rfl 49 _ _ rfl n3_ (by decide) rfl rfl aI rfl rfl rfl (ZbT rfl) bM qN ?_)|(refine kL 12 rfl ?_;first|refine DD rfl rfl _ _ 49 rfl ud49 inf236 rfl rfl rfl cY aA qB qB fB qN qS ?_|refine BL rfl rfl _ _ 49 rfl ud49 inf236 rfl rfl aA qB qB cU (.push qL qN) qS ?_|refine A_append_nlsub rfl rfl _ _ 49 rfl ud49 inf236 rfl rfl rfl rfl aK qB qB iW.symm (.push qL qN) ?_)|(refine kL 7555 rfl ?_;first|refine A_store_rp rfl rfl 236 _ _ rfl inf236 (by decide) rfl rfl aI rfl rfl rfl (ZbT rfl) bM qN ?_)|(refine kL 1583 rfl ?_;first|refine A_lit rfl rfl 49 1 _ rfl ud49 inf236 (.cons rfl .nil) (els:=[[_,_,_]]) rfl cU rfl (fT rfl) (ZbT rfl) (ZbT rfl) (.push qL qN) ?_)|refine uA ?_)|(refine ZRG ?_;first|(refine kR 1551 rfl ?_;first|refine R_lit rfl rfl 48 1 _ rfl ud48 inf233 (.cons rfl .nil) (els:=[[_,_]]) rfl cU rfl (fT rfl) (ZbT rfl) (ZbT rfl) qh qN ?_)|(refine kR 12 rfl ?_;first|refine R_append rfl rfl _ _ 48 rfl ud48 inf233 rfl rfl rfl cY aA qB qB fB qN qS ?_|refine CR rfl rfl _ _ 48 rfl ud48 inf233 rfl rfl aA qB qB cU qh qN qS ?_)|(refine kR 1539 rfl ?_;first|refine R_store_rp rfl rfl 48 _ _ rfl n2_ (by decide) rfl rfl aI rfl rfl rfl (ZbT rfl) bM qN ?_)|(refine kR 1635 rfl ?_;first|refine R_store_rp rfl rfl 51 _ _ rfl inf51 (by decide) rfl rfl aI rfl rfl rfl (ZbT rfl) bM qN ?_)|refine uR ?_)|refine uC ?_|refine E7 ?_|refine ZK2 (fun hc=>?_) (fun hc=>?_)|fail)
   all_goals first|(exfalso;omega)|((first|exact Fin.q Tryz.results225 (.cons (.agg rfl rfl ud51 rfl inf51 (us:=[_,_,_,_,_]) rfl rfl) (.cons (.tmp rfl) .nil)) [2,5]|refine Fin.q Tryz.results225 (.cons (.agg rfl rfl ud51 rfl inf51 (us:=[_,_,_,_,_]) rfl rfl) (.cons (.tmp rfl) .nil)) [2,5] (hr:=(.tupL (.cons (.t ?_) (.cons (.t ?_) .nil))))|refine Fin.mkv (rs:=_) Tryz.results225 (.cons (.agg rfl rfl ud51 rfl inf51 (us:=[_,_,_,_,_]) rfl rfl) (.cons (.tmp rfl) .nil)) [2,5] (by decide) rfl ?_ ?_ ?_<;>repeat' (first|exact ZE1|refine ZE2 ?_ ?_|refine ZE3 ?_|exact ZE4|fail)))
   all_goals simp
def AfF (stamp g:Int):Bool:=decide (0≤stamp∧2≤g∧stamp≤g-2)
theorem ArJ (s g:Int) (hg:g≤9223372036854775807):Cd Tryz.prog 227 [i64 s,i64 g] (bo (AfF s g)) []:=by
 refine ZEN Tryz.func227 Tryz.ntmps227 ?_
 repeat' (first|refine A0 ?_|refine uS 7 (fun hb=>?_) (fun hb=>?_)|refine uS 11 (fun hb=>?_) (fun hb=>?_)|refine ZK2 (fun hc=>?_) (fun hc=>?_)|fail)
 all_goals ((first|exact A5 Tryz.results227|refine A7 Tryz.results227 ?_|refine A8 Tryz.results227 ?_ ?_ ?_<;>repeat' (first|exact ZE1|refine ZE2 ?_ ?_|refine ZE3 ?_|exact ZE4|fail)))
 all_goals (unfold AfF;first|rfl|(rw [fR (by omega)])|(rw [fP (by omega)])|(congr 2;rw [kV];omega))
def prE (g:Int) (o:CD):Bool:=AfF o.stamp g
theorem ApC (g:Int) (hg:g≤9223372036854775807) (o:CD):Cd Tryz.prog 226 [.agg ((tOd o).map .t),.lp [i64 g]] (bo (prE g o)) []:=by
 obtain ⟨⟨a,b⟩,s⟩:=o
 refine ZEN Tryz.func226 Tryz.ntmps226 ?_
 repeat' (first|(refine ZAL ?_;first|refine uA ?_|refine uK (ArJ s g hg) ?_)|refine uC ?_|refine ZK2 (fun hc=>?_) (fun hc=>?_)|fail)
 all_goals ((first|exact A5 Tryz.results226|refine A7 Tryz.results226 ?_|refine A8 Tryz.results226 ?_ ?_ ?_<;>repeat' (first|exact ZE1|refine ZE2 ?_ ?_|refine ZE3 ?_|exact ZE4|fail)))
theorem AuQ (g:Int) (hg:g≤9223372036854775807) (i t sp:Int) (fr:List CN) (ol:List CD) (hs:fr.length+ol.length≤5864062014805) :
  Cd Tryz.prog 187 [.agg [i64 i,i64 t,.ln (fr.map tSl),.ln (ol.map tOd),i64 sp],i64 g] (.tup [.agg [i64 i,i64 t,.sl 0 0 (FH (prE g) fr ol).length,.sl 1 0 (FV (prE g) ol).length,i64 sp],i64 ((ol.length:Int)-(FV (prE g) ol).length)])
   [.row 0 233 2 ((FH (prE g) fr ol).map tSl),.row 0 236 3 ((FV (prE g) ol).map tOd)]:=by
 have c1:=AbG 226 [] [.lp [i64 g]] (prE g) (fun o=>⟨_,_,[],[.lp [i64 g]],rfl,Tryz.func226,by kernel_rfl,by kernel_rfl,fun _=>.nil,fun _=>.cons (.lpL (.cons (.t _) .nil)) .nil,ApC g hg o⟩) rfl i t sp fr ol hs
 refine ZEN Tryz.func187 Tryz.ntmps187 ?_
 repeat' (first|refine A6 ?_|refine ZK2 (fun hc=>?_) (fun hc=>?_)|fail)
 all_goals ((first|exact Fin.q Tryz.results187 (.cons (.agg rfl rfl ud51 rfl inf51 (us:=[_,_,_,_,_]) rfl rfl) (.cons (.tmp rfl) .nil)) [3,4]|refine Gg Tryz.results187 ?_ ?_|refine Gh Tryz.results187 ?_ ?_ ?_<;>repeat' (first|exact ZE1|refine ZE2 ?_ ?_|refine ZE3 ?_|exact ZE4|fail)))
end
def ixI:List Int→Int→Int
 | [],_ => -1
 |a::l,x=>if a=x then 0 else if ixI l x<0 then -1 else ixI l x+1
theorem h8_ : ∀(l:List Int) (x:Int) (j:Nat),(∀q,q<j→l.getD q 0≠x)→l[j]? = some x→ixI l x=j
 | [],_,_,_,h=>by simp at h
 |a::l,x,0,_,h=>by simp at h;simp [ixI,h]
 |a::l,x,j+1,h0,h=>by
  have h1:=h8_ l x j (fun q hq=>by have:=h0 (q+1) (by omega);simpa using this) fD
  have h2:a≠x:=by have:=h0 0 (by omega);simpa using this
  unfold ixI
  rw [fM h2,fM (by omega),h1];rfl
theorem RI : ∀(l:List Int) (x:Int),(∀q,q<l.length→l.getD q 0≠x)→ixI l x = -1
 | [],_,_=>rfl
 |a::l,x,h0=>by
  have h1:=RI l x (fun q hq=>by have:=h0 (q+1) bA;simpa using this)
  have h2:a≠x:=by have:=h0 0 (by simp);simpa using this
  unfold ixI
  rw [fM h2,fL (by omega)]
theorem WM : ∀(l:List Int) (x:Int),0≤ixI l x↔x∈l
 | [],x=>by simp [ixI]
 | a::l,x=>by
  have:=WM l x
  unfold ixI
  by_cases h:a=x
  ·simp [h]
  ·rw [fM h]
   have h':x≠a:=fun e=>h e.symm
   simp only [iE,h',false_or]
   by_cases h2:ixI l x<0
   ·rw [fL h2, ←this];omega
   ·rw [fM h2, ←this];omega
section
attribute [local irreducible] AL AW RG Fin C Cd Cio AI AF AN
theorem AdC (l:List Int) (x:Int) (hl:l.length≤1152921504606846976):Cd Tryz.prog 254 [.ln (l.map tU),u64 x] (i64 (ixI l x)) []:=by
 have h1:(l.map tU).length=l.length:=fH _
 refine ZEN Tryz.func254 Tryz.ntmps254 ?_
 repeat' (first|refine A0 ?_|refine ZK2 (fun hc=>?_) (fun hc=>?_)|fail)
 refine AW.loopP (fun (j:Nat)=>j≤l.length ∧ ∀q,q<j→l.getD q 0≠x) (fun (j:Nat)=>(pu (pu (pu (pu (fun _=>.any) 0 (.ln (l.map tU))) 1 (u64 x)) 7 (i64 (l.map tU).length)) 8 (i64 j))) (fun (j:Nat)=>[]) (fun (j:Nat)=>l.length-j) (0) ?_ ?_ ?_
 ·exact ⟨fO _,fun q hq=>by omega⟩
 ·exact Wk.cq 0
 ·rintro j ⟨h2,h3⟩
  by_cases hj:j<l.length
  ·obtain ⟨a,ha⟩ : ∃a,l[j]? = some a:=⟨_,ZgE hj⟩
   repeat' (first|refine A0 ?_|refine ZK2 (fun hc=>?_) (fun hc=>?_)|fail)
   all_goals try exact ZE5
   ·(first|exact A5 Tryz.results254|refine A7 Tryz.results254 ?_|refine A8 Tryz.results254 ?_ ?_ ?_<;>repeat' (first|exact ZE1|refine ZE2 ?_ ?_|refine ZE3 ?_|exact ZE4|fail))
    rw [h8_ l x j h3 (by rw [ha,hc])]
   ·refine ⟨j+1,⟨by omega,fun q hq=>?_⟩,by omega,?_⟩
    ·by_cases e:q=j
     ·subst e;rw [fK,ha];exact fun e=>hc e.symm
     ·exact h3 q (by omega)
    ·exact Wk.cq 0
  ·repeat' (first|refine A0 ?_|refine ZK2 (fun hc=>?_) (fun hc=>?_)|fail)
   all_goals first|(exfalso;omega)|((first|exact A5 Tryz.results254|refine A7 Tryz.results254 ?_|refine A8 Tryz.results254 ?_ ?_ ?_<;>repeat' (first|exact ZE1|refine ZE2 ?_ ?_|refine ZE3 ?_|exact ZE4|fail)))
   rw [RI l x fun q hq=>h3 q (by omega)]
theorem YV (l:List Int) (x:Int) (hl:l.length≤1152921504606846976):Cd Tryz.prog 230 [.ln (l.map tU),u64 x] (bo (decide (x∈l))) []:=by
 have h1:=WM l x
 refine ZEN Tryz.func230 Tryz.ntmps230 ?_
 repeat' (first|(refine ZAL ?_;first|refine uA ?_|refine uK (AdC l x hl) ?_)|refine uC ?_|refine ZK2 (fun hc=>?_) (fun hc=>?_)|fail)
 all_goals ((first|exact A5 Tryz.results230|refine A7 Tryz.results230 ?_|refine A8 Tryz.results230 ?_ ?_ ?_<;>repeat' (first|exact ZE1|refine ZE2 ?_ ?_|refine ZE3 ?_|exact ZE4|fail)))
 all_goals (congr 2;rw [kV];omega)
def prS (l:List Int) (o:CD):Bool := !decide (word o.ref.index o.ref.tag∈l)
theorem ApD (l:List Int) (hl:l.length≤1152921504606846976) (o:CD):Cd Tryz.prog 229 [.agg ((tOd o).map .t),.lp [.ln (l.map tU)]] (bo (prS l o)) []:=by
 obtain ⟨⟨a,b⟩,s⟩:=o
 refine ZEN Tryz.func229 Tryz.ntmps229 ?_
 repeat' (first|refine uA ?_|(refine ZRG ?_;first|refine uR ?_|refine AZ (LG a b) ?_|refine AZ (YV l (word a b) hl) ?_)|refine uC ?_|refine AW.drawU (id:=1) mixed 0 qR ?_|refine ZK2 (fun hc=>?_) (fun hc=>?_)|fail)
 all_goals ((first|exact A5 Tryz.results229|refine A7 Tryz.results229 ?_|refine A8 Tryz.results229 ?_ ?_ ?_<;>repeat' (first|exact ZE1|refine ZE2 ?_ ?_|refine ZE3 ?_|exact ZE4|fail)))
theorem AuR (l:List Int) (hl:l.length≤1152921504606846976) (i t sp:Int) (fr:List CN) (ol:List CD) (hs:fr.length+ol.length≤5864062014805) :
  Cd Tryz.prog 191 [.agg [i64 i,i64 t,.ln (fr.map tSl),.ln (ol.map tOd),i64 sp],.ln (l.map tU)] (.tup [.agg [i64 i,i64 t,.sl 0 0 (FH (prS l) fr ol).length,.sl 1 0 (FV (prS l) ol).length,i64 sp],i64 ((ol.length:Int)-(FV (prS l) ol).length)])
   [.row 0 233 2 ((FH (prS l) fr ol).map tSl),.row 0 236 3 ((FV (prS l) ol).map tOd)]:=by
 have c1:=AbG 229 [] [.lp [.ln (l.map tU)]] (prS l) (fun o=>⟨_,_,[],[.lp [.ln (l.map tU)]],rfl,Tryz.func229,by kernel_rfl,by kernel_rfl,fun _=>.nil,fun _=>.cons (.lpL (.cons (.ln _) .nil)) .nil,ApD l hl o⟩) rfl i t sp fr ol hs
 refine ZEN Tryz.func191 Tryz.ntmps191 ?_
 repeat' (first|refine A6 ?_|refine ZK2 (fun hc=>?_) (fun hc=>?_)|fail)
 all_goals ((first|exact Fin.q Tryz.results191 (.cons (.agg rfl rfl ud51 rfl inf51 (us:=[_,_,_,_,_]) rfl rfl) (.cons (.tmp rfl) .nil)) [3,4]|refine Gg Tryz.results191 ?_ ?_|refine Gh Tryz.results191 ?_ ?_ ?_<;>repeat' (first|exact ZE1|refine ZE2 ?_ ?_|refine ZE3 ?_|exact ZE4|fail)))
def rankR (r:Rst):Int:=if r.code=14 then 2*r.seq else 2*r.seq+1
theorem b7_ (r:Rst):Cd Tryz.prog 231 [aR r] (bo (decide (r.code≠14))) []:=by
 refine ZEN Tryz.func231 Tryz.ntmps231 ?_
 repeat' (first|refine A0 ?_|fail)
 all_goals exact A2 Tryz.results231
theorem q1_ (r:Rst) (h:0≤r.seq∧r.seq≤1048576):Cd Tryz.prog 218 [aR r] (i64 (rankR r)) []:=by
 have c1:=b7_ r
 unfold rankR
 by_cases k:r.code=14
 ·rw [fL k]
  rw [fP (by simp [k])] at c1
  refine ZEN Tryz.func218 Tryz.ntmps218 ?_
  repeat' (first|refine A6 ?_|fail)
  all_goals exact A2 Tryz.results218
 ·rw [fM k]
  rw [fR k] at c1
  refine ZEN Tryz.func218 Tryz.ntmps218 ?_
  repeat' (first|refine A6 ?_|fail)
  all_goals exact A2 Tryz.results218
theorem AnR {w:Int} (h:0≤w∧w≤18446744073709551615):0≤(readR w).seq∧(readR w).seq≤1048576:=by unfold readR;dsimp only;omega
theorem US (a b:Int) (ha:0≤a∧a≤18446744073709551615) (hb:0≤b∧b≤18446744073709551615):Cd Tryz.prog 178 [u64 a,u64 b] (bo (decide (rankR (readR a)<rankR (readR b)))) []:=by
 have c1:=GL a ha
 have c2:=GL b hb
 have c3:=q1_ (readR a) (AnR ha)
 have c4:=q1_ (readR b) (AnR hb)
 generalize readR a=x at *
 generalize readR b=y at *
 generalize rankR x=p at *
 generalize rankR y=q at *
 by_cases h:p<q
 ·rw [fR h]
  refine ZEN Tryz.func178 Tryz.ntmps178 ?_
  repeat' (first|refine Gj ?_|fail)
  all_goals exact A2 Tryz.results178
 ·rw [fP h]
  refine ZEN Tryz.func178 Tryz.ntmps178 ?_
  repeat' (first|refine Gj ?_|fail)
  all_goals exact A2 Tryz.results178
theorem AsZ {s:List Int} {p i:Nat} (h:p≤i):stC s p (i+1)=stC s p i:=by
 refine iI fun j=>?_
 by_cases hj:j<p
 ·rw [GO s hj,GO s hj]
  by_cases q:j<s.length
  ·rw [fL ⟨by omega,q⟩,fL ⟨by omega,q⟩]
  ·rw [fM (by omega),fM (by omega)]
 ·rw [gL eV,gL eV]
theorem AgJ (s:List Int) (p:Nat):stC s p s.length=stC s p p:=by
 refine iI fun j=>?_
 by_cases hj:j<p
 ·rw [GO s hj,GO s hj]
  by_cases q:j<s.length
  ·rw [fL ⟨q,q⟩,fL ⟨hj,q⟩]
  ·rw [fM (by omega),fM (by omega)]
 ·rw [gL eV,gL eV]
theorem AcY (c:AB) (hs0:c.start.length≤1152921504606846976):Cd Tryz.prog 156 [aCf c] (.agg [i64 0,.sl 0 0 (plN c),.sl 1 0 (thN c),.sl 2 0 (thN c)]) [.row 0 101 5 ((stC c.start (plN c) (plN c)).map tCh),.row 0 167 4 ((List.replicate (thN c) (⟨false,0,0,[]⟩:AH)).map tWt),.row 0 53 4 ((List.replicate (thN c) (⟨0,0,0,0⟩:Rst)).map tR)]:=by
 have h1:(c.start.map tI).length=c.start.length:=fH _
 have hp:((plN c:Nat):Int)=max (min c.chans 8) 0:=by have:=AfG c;omega
 have ht:((thN c:Nat):Int)=max (min c.threads 64) 0:=by have:=AgU c;omega
 have hp8:=(AfG c).2
 have ht64:=(AgU c).2
 generalize plN c=p at *
 generalize thN c=th at *
 refine ZEN Tryz.func156 Tryz.ntmps156 ?_
 repeat' (first|(refine ZAL ?_;first|(refine kL 3235 rfl ?_;first|refine A_store_rp rfl rfl 101 _ _ rfl inf101 (by decide) rfl rfl aI rfl rfl rfl (ZbT rfl) bO qN ?_)|(refine kL 3107 rfl ?_;first|refine A_store_rp rfl rfl 97 _ _ rfl inf97 (by decide) rfl rfl aI rfl rfl rfl (ZbT rfl) bO qN ?_)|refine uA ?_)|(refine ZRG ?_;first|(refine kR 2992 rfl ?_;first|refine R_make rfl rfl 93 _ _ rfl ud93 inf101 rfl (zs:=[(.v (.int .i64 0)),(.v (.int .i64 0)),(.v (.bool false)),(.v (.bool false)),.lst []]) rfl rfl rfl p aJ aJ qB qB aL qh qN ?_|refine R_make rfl rfl 93 _ _ rfl ud93 inf101 rfl (zs:=[(.v (.int .i64 0)),(.v (.int .i64 0)),(.v (.bool false)),(.v (.bool false)),.lst []]) rfl rfl rfl th aJ aJ qB qB aL qh qN ?_|refine R_make rfl rfl 93 _ _ rfl ud93 inf101 rfl (zs:=[(.v (.int .i64 0)),(.v (.int .i64 0)),(.v (.bool false)),(.v (.bool false)),.lst []]) rfl rfl rfl _ aJ aJ qB qB aL qh qN ?_)|(refine kR 3024 rfl ?_;first|refine R_make rfl rfl 94 _ _ rfl ud94 inf167 rfl (zs:=[(.v (.bool false)),(.v (.int .i64 0)),(.v (.int .i64 0)),.lst []]) rfl rfl rfl p aJ aJ qB qB aL qh qN ?_|refine R_make rfl rfl 94 _ _ rfl ud94 inf167 rfl (zs:=[(.v (.bool false)),(.v (.int .i64 0)),(.v (.int .i64 0)),.lst []]) rfl rfl rfl th aJ aJ qB qB aL qh qN ?_|refine R_make rfl rfl 94 _ _ rfl ud94 inf167 rfl (zs:=[(.v (.bool false)),(.v (.int .i64 0)),(.v (.int .i64 0)),.lst []]) rfl rfl rfl _ aJ aJ qB qB aL qh qN ?_)|(refine kR 3056 rfl ?_;first|refine R_make rfl rfl 95 _ _ rfl ud95 inf53 rfl (zs:=[(.v (.int .i64 0)),(.v (.int .i64 0)),(.v (.int .i64 0)),(.v (.int .i64 0))]) rfl rfl rfl p aJ aJ qB qB aL qh qN ?_|refine R_make rfl rfl 95 _ _ rfl ud95 inf53 rfl (zs:=[(.v (.int .i64 0)),(.v (.int .i64 0)),(.v (.int .i64 0)),(.v (.int .i64 0))]) rfl rfl rfl th aJ aJ qB qB aL qh qN ?_|refine R_make rfl rfl 95 _ _ rfl ud95 inf53 rfl (zs:=[(.v (.int .i64 0)),(.v (.int .i64 0)),(.v (.int .i64 0)),(.v (.int .i64 0))]) rfl rfl rfl _ aJ aJ qB qB aL qh qN ?_)|(refine kR 3107 rfl ?_;first|refine R_store_rp rfl rfl 97 _ _ rfl inf97 (by decide) rfl rfl aI rfl rfl rfl (ZbT rfl) bO qN ?_)|refine uR ?_)|refine uC ?_|refine Ei ?_|refine ZK2 (fun hc=>?_) (fun hc=>?_)|fail)
 all_goals try exact ZE5
 refine AW.loopP (fun (i:Nat)=>i≤c.start.length) (fun (i:Nat)=>(pu (pu (pu (pu (pu (pu (pu (fun _=>.any) 1 (.ptr 0 0)) 2 (.ptr 1 0)) 3 (i64 p)) 5 (.ptr 5 0)) 24 (.ln (c.start.map tI))) 25 (i64 (c.start.map tI).length)) 26 (i64 i))) (fun (i:Nat)=>[.box 24 [i64 c.kind,i64 c.threads,i64 c.chans,i64 c.cap,i64 c.nodes,i64 c.retire,i64 c.patience,i64 c.tags,i64 c.seqs,i64 c.gens,.ln (c.start.map tI)],.box 97 [i64 0,.nl,.nl,.nl],.row 0 101 5 ((stC c.start p i).map tCh),.row 0 167 4 ((List.replicate th (⟨false,0,0,[]⟩:AH)).map tWt),.row 0 53 4 ((List.replicate th (⟨0,0,0,0⟩:Rst)).map tR),.box 97 [i64 0,.sl 2 0 p,.sl 3 0 th,.sl 4 0 th]]) (fun (i:Nat)=>c.start.length-i) (0) ?_ ?_ ?_
 ·exact fO _
 ·rw [AgL,hp]
  exact Wk.cq 6
 ·intro i hi
  have hL:=stC_len c.start p i
  have hL2:((stC c.start p i).map tCh).length=p:=by rw [fH,hL]
  by_cases hc1:i<c.start.length
  ·obtain ⟨x,hx⟩ : ∃x,c.start[i]? = some x:=⟨_,ZgE hc1⟩
   by_cases hip:i<p
   ·have hg:(stC c.start p i)[i]? = some ⟨0,0,false,false,[]⟩:=by rw [GO _ hip,fM (by omega)]
    have hs:=AgK hip hx
    generalize stC c.start p i=L0 at *
    clear hp ht hs0
    repeat' (first|(refine ZAL ?_;first|(refine kL 3235 rfl ?_;first|refine A_store_rp rfl rfl 101 _ _ rfl inf101 (by decide) rfl rfl fG rfl rfl rfl (ZbT rfl) eM qN ?_)|(refine kL 3107 rfl ?_;first|refine A_store_rp rfl rfl 97 _ _ rfl inf97 (by decide) rfl rfl fG rfl rfl rfl (ZbT rfl) eM qN ?_)|refine uA ?_)|(refine ZRG ?_;first|(refine kR 2992 rfl ?_;first|refine R_make rfl rfl 93 _ _ rfl ud93 inf101 rfl (zs:=[(.v (.int .i64 0)),(.v (.int .i64 0)),(.v (.bool false)),(.v (.bool false)),.lst []]) rfl rfl rfl _ aJ aJ qB qB eK qh qN ?_)|(refine kR 3024 rfl ?_;first|refine R_make rfl rfl 94 _ _ rfl ud94 inf167 rfl (zs:=[(.v (.bool false)),(.v (.int .i64 0)),(.v (.int .i64 0)),.lst []]) rfl rfl rfl _ aJ aJ qB qB eK qh qN ?_)|(refine kR 3056 rfl ?_;first|refine R_make rfl rfl 95 _ _ rfl ud95 inf53 rfl (zs:=[(.v (.int .i64 0)),(.v (.int .i64 0)),(.v (.int .i64 0)),(.v (.int .i64 0))]) rfl rfl rfl _ aJ aJ qB qB eK qh qN ?_)|(refine kR 3107 rfl ?_;first|refine R_store_rp rfl rfl 97 _ _ rfl inf97 (by decide) rfl rfl fG rfl rfl rfl (ZbT rfl) eM qN ?_)|refine uR ?_)|refine uC ?_|refine Ei ?_|refine ZK2 (fun hc=>?_) (fun hc=>?_)|fail)
    all_goals try exact ZE5
    refine ⟨i+1,by omega,by omega,?_⟩
    rw [hs]
    exact Wk.cq 6
   ·have hs:stC c.start p (i+1)=stC c.start p i:=AsZ (by omega)
    generalize stC c.start p i=L0 at *
    clear hp ht
    repeat' (first|refine Gn ?_|refine ZK2 (fun hc=>?_) (fun hc=>?_)|fail)
    all_goals try exact ZE5
    refine ⟨i+1,by omega,by omega,?_⟩
    rw [hs]
    exact Wk.cq 6
  ·have e:i=c.start.length:=by omega
   subst e
   rw [AgJ]
   repeat' (first|refine Gn ?_|refine ZK2 (fun hc=>?_) (fun hc=>?_)|fail)
   all_goals first|(exfalso;omega)|(exact Fin.q Tryz.results156 (.cons (.agg rfl rfl ud97 rfl inf97 (us:=[_,_,_,_]) rfl rfl) .nil) [2,3,4])
end
theorem AyL (c:AB) (hs:c.start.length≤1152921504606846976):Cd Tryz.prog 156 [aCf c] (.agg [i64 (startH c).ticket,.t (.lst ((startH c).chans.map tCh)),.t (.lst ((startH c).waits.map tWt)),.t (.lst ((startH c).done.map tR))]) []:=by
 have h0:=AcY c hs
 have l:=OI c
 have e1:=l.c
 have e2:=l.w
 have e3:=l.d
 have hh:Cd Tryz.prog 156 [aCf c] (.agg [i64 (startH c).ticket,.sl 0 0 (startH c).chans.length,.sl 1 0 (startH c).waits.length,.sl 2 0 (startH c).done.length]) [.row 0 101 5 ((startH c).chans.map tCh),.row 0 167 4 ((startH c).waits.map tWt),.row 0 53 4 ((startH c).done.map tR)]:=by rw [e1,e2,e3];exact h0
 generalize startH c=g at *
 have hh':=Cd.frz1 hh 0 rfl aB rfl;have hh'':=Cd.frz1 hh' 1 rfl aB rfl;have hh''':=Cd.frz1 hh'' 2 rfl aB rfl;exact Cd.drop hh''' rfl
section
attribute [local irreducible] AL AW RG Fin C Cd Cio AI AF AN
def TH (c:AB) (h:AM) (i:Nat):List Int:=h.ticket::(h.chans.take i).flatMap (SC c.cap)
def MG (c:AB) (h:AM) (i:Nat):List Int:=h.ticket::(h.chans.flatMap (SC c.cap)++(h.waits.take i).flatMap JL)
theorem AfM {c:AB} {h:AM} {i:Nat} (hi:i≤h.chans.length):(TH c h i).length=1+i*(c.cap.toNat+1):=by
 unfold TH;rw [fY,HF _ fun x _=>MH _ x,fQ];rw [show min i h.chans.length=i by omega];omega
theorem AfO {c:AB} {h:AM} {i:Nat} (hi:i≤h.waits.length):(MG c h i).length=1+h.chans.length*(c.cap.toNat+1)+i*4:=by
 unfold MG;rw [fY,fJ,HF _ fun x _=>MH _ x,HF _ fun x _=>NY x,fQ];rw [show min i h.waits.length=i by omega];omega
theorem x5_ {c:AB} {h:AM} {i:Nat} {a:AX} (ha:h.chans[i]? = some a):TH c h (i+1)=(TH c h i++[FI a])++CQ a.buf c.cap.toNat:=by
 unfold TH;rw [iG,ha];simp [SC]
theorem AfL (c:AB) (h:AM):TH c h h.chans.length=MG c h 0:=by unfold TH MG;simp
theorem x6_ {c:AB} {h:AM} {i:Nat} {a:AH} (ha:h.waits[i]? = some a):MG c h (i+1)=(MG c h i++[HH a])++CQ (a.cases.map wordK) 3:=by
 unfold MG;rw [iG,ha];simp [JL]
theorem AfN {c:AB} {h:AM} (hf:DS c h=true):MG c h h.waits.length++h.done.map wordR=putH c h:=by unfold MG putH;rw [fL hf];simp
theorem TX (l:List BD):List.take (4-1) (List.drop 1 (KK ⟨3,0,0,false,l⟩ 0))=CQ (l.map wordK) 3:=by
 show List.take 3 (CQ (l.map wordK) 3++[0])=_
 have:=kX (l₁:=CQ (l.map wordK) 3) (l₂:=[(0:Int)])
 rwa [CW] at this
theorem i9_ (c:AB) (h:AM) (hs:c.start.length≤1152921504606846976) (hh:okH h):Cd Tryz.prog 155 [aCf c,aHl h] (.t (.lst ((putH c h).map tU))) []:=by
 have c1:=AiU c h hs hh
 have g1:(h.chans.map tCh).length=h.chans.length:=fH _
 have g2:(h.waits.map tWt).length=h.waits.length:=fH _
 cases hf:DS c h
 ·rw [hf] at c1
  rw [show putH c h=[] by unfold putH;rw [hf];rfl]
  refine ZEN Tryz.func155 Tryz.ntmps155 ?_
  repeat' (first|(refine ZAL ?_;first|refine E3 ?_|refine Al ?_|refine Ac ?_|refine uA ?_|refine uK (c1) ?_)|(refine ZRG ?_;first|refine Af ?_|refine Bq ?_|refine uR ?_)|refine uC ?_|refine D6 ?_|refine ZK2 (fun hc=>?_) (fun hc=>?_)|fail)
  all_goals exact A2 Tryz.results155
 ·rw [hf] at c1
  obtain ⟨h0,h1,h2,h3,h4,⟨h5,h6⟩,h7,h8⟩:=DI.1 hf
  have hsh:=AJ h0
  have hb:=hsh.h3 h1
  have ht1:=hsh.t1
  have hcap:c.cap=(c.cap.toNat:Int):=by omega
  have hmul : ∀i,i≤h.chans.length→i*(c.cap.toNat+1)≤72:=fun i hi=>iZ (Nat.mul_le_mul (show i≤8 by omega) (show c.cap.toNat+1≤9 by omega)) (by decide)
  rw [←AfN hf]
  refine ZEN Tryz.func155 Tryz.ntmps155 ?_
  repeat' (first|(refine ZAL ?_;first|refine Bj ?_|refine Ac ?_|refine uA ?_|refine uK (c1) ?_)|(refine ZRG ?_;first|refine D7 ?_|refine Bq ?_|refine uR ?_)|refine uC ?_|refine D6 ?_|refine ZK2 (fun hc=>?_) (fun hc=>?_)|fail)
  all_goals try exact ZE5
  refine AW.loopP (fun (x:Nat × Nat × Nat)=>x.1≤h.chans.length∧x.2.2=(TH c h x.1).length) (fun (x:Nat × Nat × Nat)=>(pu (pu (pu (pu (pu (pu (fun _=>.any) 2 (.ptr 0 0)) 3 (.ptr 1 0)) 5 (.sl 2 x.2.1 x.2.2)) 20 (.ln (h.chans.map tCh))) 21 (i64 (h.chans.map tCh).length)) 22 (i64 x.1))) (fun (x:Nat × Nat × Nat)=>[.box 24 [i64 c.kind,i64 c.threads,i64 c.chans,i64 c.cap,i64 c.nodes,i64 c.retire,i64 c.patience,i64 c.tags,i64 c.seqs,i64 c.gens,.ln (c.start.map tI)],.box 97 [i64 h.ticket,.ln (h.chans.map tCh),.ln (h.waits.map tWt),.ln (h.done.map tR)],.row x.2.1 46 1 ((TH c h x.1).map tU)]) (fun (x:Nat × Nat × Nat)=>h.chans.length-x.1) ((0,0,1)) ?_ ?_ ?_
  ·exact ⟨fO _,rfl⟩
  ·exact Wk.cq 3
  ·rintro ⟨i,k,m⟩ ⟨l2,l3⟩
   dsimp only at l2 l3 ⊢
   have hL:=AfM (c:=c) l2
   have hM:=hmul i l2
   by_cases hi:i<h.chans.length
   ·obtain ⟨a,ha⟩ : ∃a,h.chans[i]? = some a:=⟨_,ZgE hi⟩
    have hOK:=h7 a (fI ha)
    have hO:=BC.1 hOK
    have cH:=ApR a c.cap (by omega) hOK
    have cR:=AcF a.buf c.cap c.cap.toNat (k+1) (m+1) (TH c h i++[FI a]) hcap bA hO.2.2.1.2 (by omega) bA
    have hs:=x5_ (c:=c) ha
    repeat' (first|(refine ZAL ?_;first|refine Bj ?_|refine Ac ?_|refine uA ?_)|(refine ZRG ?_;first|refine D7 ?_|refine Bq ?_|refine uR ?_|refine AZ (cH) ?_|refine uJ [2] (cR) ?_)|refine uC ?_|(first|refine AW.drawU (id:=7) mixed 2 qR ?_|refine AW.drawU (id:=12) mixed 2 qR ?_)|refine ZK2 (fun hc=>?_) (fun hc=>?_)|fail)
    all_goals try exact ZE5
    refine ⟨(i+1,k+1+c.cap.toNat,m+1+c.cap.toNat),⟨by dsimp only;omega,by dsimp only;rw [hs];simp [CW];omega⟩,by dsimp only;omega,?_⟩
    rw [hs]
    exact Wk.cq 3
   ·obtain rfl:i=h.chans.length:=by omega
    rw [AfL] at l3 ⊢
    repeat' (first|(refine ZAL ?_;first|refine Al ?_|refine Ac ?_|refine uA ?_)|(refine ZRG ?_;first|refine Af ?_|refine Bq ?_|refine uR ?_)|refine uC ?_|refine D6 ?_|refine ZK2 (fun hc=>?_) (fun hc=>?_)|fail)
    all_goals try exact ZE5
    refine AW.loopP (fun (x:Nat × Nat × Nat)=>x.1≤h.waits.length∧x.2.2=(MG c h x.1).length) (fun (x:Nat × Nat × Nat)=>(pu (pu (pu (pu (pu (pu (fun _=>.any) 2 (.ptr 0 0)) 3 (.ptr 1 0)) 5 (.sl 2 x.2.1 x.2.2)) 38 (.ln (h.waits.map tWt))) 39 (i64 (h.waits.map tWt).length)) 40 (i64 x.1))) (fun (x:Nat × Nat × Nat)=>[.box 24 [i64 c.kind,i64 c.threads,i64 c.chans,i64 c.cap,i64 c.nodes,i64 c.retire,i64 c.patience,i64 c.tags,i64 c.seqs,i64 c.gens,.ln (c.start.map tI)],.box 97 [i64 h.ticket,.ln (h.chans.map tCh),.ln (h.waits.map tWt),.ln (h.done.map tR)],.row x.2.1 46 1 ((MG c h x.1).map tU)]) (fun (x:Nat × Nat × Nat)=>h.waits.length-x.1) ((0,k,m)) ?_ ?_ ?_
    ·exact ⟨fO _,l3⟩
    ·exact Wk.cq 3
    ·rintro ⟨i,k,m⟩ ⟨l2,l3⟩
     dsimp only at l2 l3 ⊢
     have hL:=AfO (c:=c) l2
     by_cases hi:i<h.waits.length
     ·obtain ⟨a,ha⟩ : ∃a,h.waits[i]? = some a:=⟨_,ZgE hi⟩
      have hOK:=h8 a (fI ha)
      obtain ⟨q1,q2,q3,q4⟩:=FB hOK
      have g3:(a.cases.map tCs).length=a.cases.length:=fH _
      have hq:BR ⟨3,0,0,false,a.cases⟩=true:=by rw [ZB,fR q3,gY.2 q4];rfl
      have cC:=p6_ ⟨3,0,0,false,a.cases⟩ 0 hq rfl (by decide)
      have hbt:=HV a.on
      have cFl:=g9_ a.on
      have hw:HH a=IX a.on+((a.cases.map tCs).length:Int)*2+a.seq*16+a.ticket*4294967296:=by unfold HH;omega
      have hs:=x6_ (c:=c) ha
      rw [←TX,hw] at hs
      have hl3:(List.take (4-1) (List.drop 1 (KK ⟨3,0,0,false,a.cases⟩ 0))).length=3:=by rw [TX,CW]
      have hL1:(MG c h i++[IX a.on+((a.cases.map tCs).length:Int)*2+a.seq*16+a.ticket*4294967296]).length=(MG c h i).length+1:=by simp
      have hlc:(KK ⟨3,0,0,false,a.cases⟩ 0).length=5:=by simp [KK,CW]
      have hlt:((KK ⟨3,0,0,false,a.cases⟩ 0).map tU).length=5:=by rw [fH,hlc]
      repeat' (first|(refine ZAL ?_;first|refine Bj ?_|refine Ac ?_|refine uA ?_|refine uK (cC) ?_)|(refine ZRG ?_;first|refine D7 ?_|refine Bq ?_|refine uR ?_|refine AZ (cFl) ?_)|refine uC ?_|(first|refine AW.drawU (id:=7) mixed 2 qR ?_|refine AW.drawU (id:=12) mixed 2 qR ?_)|refine ZK2 (fun hc=>?_) (fun hc=>?_)|fail)
      all_goals try exact ZE5
      refine ⟨(i+1,k+1+1,m+1+(List.take (4-1) (List.drop 1 (KK ⟨3,0,0,false,a.cases⟩ 0))).length),⟨by dsimp only;omega,by dsimp only;rw [hs];simp;omega⟩,by dsimp only;omega,?_⟩
      rw [hs]
      exact Wk.cq 3
     ·obtain rfl:i=h.waits.length:=by omega
      have cR:=QR h.done k m (MG c h h.waits.length) l3 (by omega) (by have:=hmul _ (fN _);omega)
      repeat' (first|(refine ZAL ?_;first|(refine kL 1 rfl ?_;first|((first|refine A_as (d:=4) rfl rfl rfl rfl ?_|refine A_move (d:=4) rfl rfl _ (.inr rfl) (y:=.sl _ _ _) rfl ?_|refine A_move (d:=4) rfl rfl _ (.inr rfl) (y:=.nl) rfl ?_|refine A_move (d:=4) rfl rfl _ (.inr rfl) (y:=.ptr _ _) rfl ?_|refine A_move (d:=4) rfl rfl _ (.inr rfl) (y:=.ln _) rfl ?_|refine A_move (d:=4) rfl rfl _ (.inr rfl) (y:=.lp _) rfl ?_|refine A_move (d:=4) rfl rfl _ (.inr rfl) (y:=.fn _ _ _) rfl ?_|refine A_move (d:=4) rfl rfl _ (.inr rfl) (y:=.sub _ _ _ _) rfl ?_|refine A_move (d:=4) rfl rfl _ (.inr rfl) (y:=.rp _ _ _ _) rfl ?_|refine A_move (d:=4) rfl rfl _ (.inr rfl) (y:=.agg _) rfl ?_|refine A_move (d:=4) rfl rfl _ (.inr rfl) (y:=.tup _) rfl ?_|refine A_move (d:=4) rfl rfl _ (.inr rfl) (y:=.mv _) rfl ?_|refine A_move (d:=4) rfl rfl _ (.inr rfl) (y:=.cl _) rfl ?_);(try refine uf 2 4 ?_)))|refine Al ?_|refine Ac ?_|refine uA ?_|refine uI [2] (cR) ?_)|(refine ZRG ?_;first|refine Af ?_|refine Bq ?_|refine uR ?_)|refine uC ?_|refine D6 ?_|refine ZK2 (fun hc=>?_) (fun hc=>?_)|fail)
      all_goals exact A2 Tryz.results155
def b4_ (v:Int):List Int:=[v]
theorem j_ (c:AB) (x:CL) (hs:c.start.length≤1152921504606846976) (k1:x.list.length≤1152921504606846976) (k2:x.done.length≤1152921504606846976):Cd Tryz.prog 157 [aCf c,aCl x] (.t (.lst ((putX c x).map tU))) []:=by
 have c1:=AiV c x hs k1 k2
 have g1:(x.list.map tI).length=x.list.length:=fH _
 cases hf:DT c x
 ·rw [hf] at c1
  rw [show putX c x=[] by unfold putX;rw [hf];rfl]
  refine ZEN Tryz.func157 Tryz.ntmps157 ?_
  repeat' (first|(refine ZAL ?_;first|refine E3 ?_|refine uA ?_|refine uK (c1) ?_)|(refine ZRG ?_;first|refine Af ?_|refine uR ?_)|refine uC ?_|refine AW.drawU (id:=3) mixed 5 qR ?_|refine ZK2 (fun hc=>?_) (fun hc=>?_)|fail)
  all_goals exact A2 Tryz.results157
 ·rw [hf] at c1
  obtain ⟨h0,h1,h2,⟨h3,h4⟩,h5,h6⟩:=DM.1 hf
  have hsh:=AJ h0
  have hb:=hsh.h1 h1
  have ht1:=hsh.t1
  have hcap:c.cap=(c.cap.toNat:Int):=by omega
  have cR:=AcF x.list c.cap c.cap.toNat 0 1 (b4_ ((x.list.map tI).length:Int)) hcap rfl h4 (by omega) (by simp [b4_];omega)
  have cD:=QR x.done c.cap.toNat (1+c.cap.toNat) ((b4_ ((x.list.map tI).length:Int))++CQ x.list c.cap.toNat) (by simp [CW,b4_];omega) (by omega) (by simp [CW,b4_];omega)
  have e:putX c x=((b4_ ((x.list.map tI).length:Int))++CQ x.list c.cap.toNat)++x.done.map wordR:=by unfold putX b4_;rw [fL hf,g1];simp
  have h0:Cd Tryz.prog 157 [aCf c,aCl x] (.sl 0 0 (1+c.cap.toNat+x.done.length)) [.row 0 46 1 ((putX c x).map tU)]:=by
   rw [e]
   refine ZEN Tryz.func157 Tryz.ntmps157 ?_
   repeat' (first|(refine ZAL ?_;first|refine uA ?_|refine uK (c1) ?_)|(refine ZRG ?_;first|refine D7 ?_|refine uR ?_|refine uJ [2] (cR) ?_|refine uJ [2] (cD) ?_)|refine uC ?_|refine AW.drawU (id:=3) mixed 1 qR ?_|refine ZK2 (fun hc=>?_) (fun hc=>?_)|fail)
   all_goals first|(exfalso;omega)|(exact Fin.q Tryz.results157 (.cons (.tmp rfl) .nil) [2])
  have hln:(putX c x).length=1+c.cap.toNat+x.done.length:=by rw [e];simp [b4_,CW];omega
  have h0':=Cd.frz1 h0 0 rfl aB rfl;exact Cd.drop h0' rfl
end
end Go.Proofs.YtccefppppedgkaaGreat
namespace Go.Proofs.YtccefppppedgkaaGreat
def KF (x:DOp):Int:=x.phase*18446744073709551616+x.thread
end Go.Proofs.YtccefppppedgkaaGreat
namespace Go.Proofs.YtccefppppedgkaaGreat
open Go.RowKit
section
section
variable {P:Program} {n:Fr} {T:Nat→AV} {heap:List Ob}
theorem Wk.nzB (i:Nat) {t:TypeId} {cs cs':List AV} (hi:heap[i]? = some (.box t cs)) (h:NzL cs cs') {heap':List Ob} (hh:heap.set i (.box t cs')=heap'):Wk n T heap T heap':=by
 subst hh
 rintro en a w ⟨ρ,Z,Y,hR⟩
 obtain ⟨b,us,q1,q2,q3,q4⟩:=hR.ok.rep.obs i _ hi
 obtain ⟨g1,g2⟩:=h.get
 have hm : ∀x v,Val (Kn heap) ρ w Z Y x v→Val (Kn (heap.set i (.box t cs'))) ρ w Z Y x v:=fun x v hv =>
  hv.mono (fun j k hj=>⟨hj.set hi (by exact fN _),rfl⟩) (fun b hb=>⟨hb,rfl⟩) (fun b hb=>⟨hb,rfl⟩)
 refine ⟨ρ,Z,Y,hR.ok.turn hi (fN _) (fun _ _ _=>rfl) ⟨rfl,rfl,rfl⟩ (fN _) (fun _ _ _=>rfl) ⟨b,us,q1,q2,⟨by rw [←g1];exact q3.len,fun q x u hq hu=>?_⟩,q4⟩ (fun b' hb'=>.inl hb'),hR.defers,hR.n,hR.hl,fun t v ht=>hm _ _ (hR.at_ t v ht)⟩
 have hlt:q<cs.length:=by rw [g1];exact get_lt hq
 exact hm _ _ ((g2 q cs[q] x (ZgE hlt) hq).val (q3.at_ q cs[q] u (ZgE hlt) hu))
end
end
section
variable {heap':List Ob} {k':Nat}
section
variable {P:Program} {ops:Array Oper} {Q:QS} {rest:List Oper} {o:Oper} {n:Fr} {T:Nat→AV} {heap:List Ob} {d:Nat}
theorem d6_ {h:List Ob} {i:Nat} {o:Ob} (e:h[i]? = some o):h.set i o=h:=by
 refine iI fun j=>?_
 by_cases k:i=j
 ·subst k;rw [iU (gZ.1 e).1,e]
 ·rw [jG k]
theorem t6_ (hw:AD n T ops o=true) (hd:o.dst=some d) {f:FuncId} {fn:Func} (hf:P.funcs[f]? = some fn) {args:Array Operand} {tys:Array TypeId}
  (ho:o.op = .call { callee:=.value (.func f),args:=args,argTypes:=tys }) (i0:Nat) (sel:List Nat) {xs:List AV} {H:List Ob} {r:AV} {L:List Ob} (hc:Cio P f xs H r L) {acc:List Nat} {F:List Dl→(Nat→AV)→List Ob→Prop} {ac:List Dl}
  (hn : (fn.name == "runtime.NumGoroutine") = false) (hb : fn.body.isNone = false) (hnd : (i0 :: sel).Nodup) (hL : L.length = (i0 :: sel).length) (ha : YW heap 3 (PD (args.toList.map (evA n T))) = acc)
  (hH : ∀h',(∀i,acc.contains i=true→h'[i]? = heap[i]?)→FF h' (i0::sel) (i0::sel) H) (hp : ∀h',(∀i,acc.contains i=true→h'[i]? = heap[i]?)→CH h' (i0::sel) (args.toList.map (evA n T)) xs)
  {N:Nat} (hN:heap.length=N) {r':AV} (hr:upA (gIO (i0::sel) N) r=r') {o0:Ob} {U:List (Nat × Ob)} (hU:(i0::sel).zip (L.map (upO (gIO (i0::sel) N)))=(i0,o0)::U) (h0:heap[i0]? = some o0) (hc0:acc.contains i0=true) (hh:BH heap U=heap')
  (k:RG P ops n F rest (ac++[⟨some d,r',U,acc⟩]) (pu T d r') heap'):RG P ops n F (o::rest) ac T heap:=by
 subst hr hN
 have hlk : ∀x∈args.toList,x∈o.op.operands.toList:=fun x hx=>by rw [ho];simp only [Op.operands,Call.operands,kP];exact iF _ hx
 refine RG.cons (D:=⟨some d,_,U,acc⟩) hd.symm (fun T' h' hT hA hl=>?_) rfl hh k
 have hargs:args.toList.map (evA n T')=args.toList.map (evA n T):=jU fun x hx=>ev_eq hT (hlk x hx)
 have hs : ∀i,acc.contains i=true→h'[i]? = heap[i]? := fun i hi=>hA i (by simpa using hi)
 refine QI aM hd hf hn hb ho (i0::sel) hnd hc (hH h' hs) (by rw [hargs];exact hp h' hs) hl rfl rfl (AL.nil ⟨rfl,rfl,?_⟩)
 rw [List.drop_of_length_le (by omega),gO,gU,LC,hU,BH,d6_ ((hs i0 hc0).trans h0)]
 rfl
theorem uJ1 {f : FuncId} {fn : Func} {args : Array Operand} {tys : Array TypeId} {xs : List AV} {r : AV} {L : List Ob} {H : List Ob} (i0 : Nat) (sel : List Nat) {F : List Dl → (Nat → AV) → List Ob → Prop} {acc : List Dl} (hc : Cio P f xs H r L) {N : Nat} {r' : AV} {o0 : Ob} {U : List (Nat × Ob)} {al : List Nat} (k : RG P ops n F rest (acc ++ [⟨some d, r', U, al⟩]) (pu T d r') heap') (ho : o.op = .call { callee := .value (.func f), args := args, argTypes := tys } := by first | exact rfl | fail) (hw : AD n T ops o = true := by first | exact rfl | fail) (hd : o.dst = some d := by first | exact rfl | fail) (hf : P.funcs[f]? = some fn := by first | exact rfl | fail) (hn : (fn.name == "runtime.NumGoroutine") = false := by first | kernel_rfl | fail) (hb : fn.body.isNone = false := by first | kernel_rfl | fail) (hnd : (i0 :: sel).Nodup := by first | decide | fail) (hL : L.length = (i0 :: sel).length := by first | exact rfl | fail) (ha : YW heap 3 (PD (args.toList.map (evA n T))) = al := by first | exact rfl | fail) (hH : ∀ h', (∀ i, al.contains i = true → h'[i]? = heap[i]?) → FF h' (i0 :: sel) (i0 :: sel) H := by first | (intro h' hh; (repeat' (first | exact .nil | (apply FF.cons; exact (hh _ rfl).trans rfl) | exact .row | refine .box ?_ | exact .nil | exact .sel rfl | exact .ptr rfl | refine .cons ?_ ?_ | exact .t _ | exact hps _ _ | refine .aggL ?_ | exact .any _ | exact .lst _ | exact .nl | exact .nln | exact .nlt | exact .ln _ | (apply BG.all; exact (hh _ rfl).trans rfl; exact rfl; exact dC) | (apply BG.own; exact (hh _ rfl).trans rfl; exact rfl; exact cY) | (apply BG.subE; exact (hh _ rfl).trans rfl; exact rfl; exact aS; exact cY) | (apply BG.ownE; exact (hh _ rfl).trans rfl; exact rfl; exact cY) | refine .lpL ?_ | refine .boxL ((hh _ rfl).trans rfl) rfl rfl ?_ | refine .fnL ?_ ?_)); (first | done | fail)) | fail) (hp : ∀ h', (∀ i, al.contains i = true → h'[i]? = heap[i]?) → CH h' (i0 :: sel) (args.toList.map (evA n T)) xs := by first | (intro h' hh; (repeat' (first | exact .nil | exact .sel rfl | exact .ptr rfl | refine .cons ?_ ?_ | exact .t _ | exact hps _ _ | refine .aggL ?_ | exact .any _ | exact .lst _ | exact .nl | exact .nln | exact .nlt | exact .ln _ | (apply BG.all; exact (hh _ rfl).trans rfl; exact rfl; exact dC) | (apply BG.own; exact (hh _ rfl).trans rfl; exact rfl; exact cY) | (apply BG.subE; exact (hh _ rfl).trans rfl; exact rfl; exact aS; exact cY) | (apply BG.ownE; exact (hh _ rfl).trans rfl; exact rfl; exact cY) | refine .lpL ?_ | refine .boxL ((hh _ rfl).trans rfl) rfl rfl ?_ | refine .fnL ?_ ?_)); (first | done | fail)) | fail) (hN : heap.length = N := by first | (((try simp only [fY, gB, gK, Nat.reduceAdd]); exact rfl)) | fail) (hr : upA (gIO (i0 :: sel) N) r = r' := by first | (((try simp only [BT, BH, kI, kZ, lO, upO, upA, upF, gIO, gH, gO, gN, iA, jD, fY, gB, gX, iB, gS, gM, gU, jK, iX, kA, gK, Nat.reduceAdd, Nat.reduceSub]); exact rfl)) | fail) (hU : (i0 :: sel).zip (L.map (upO (gIO (i0 :: sel) N))) = (i0, o0) :: U := by first | (((try simp only [BT, BH, kI, kZ, lO, upO, upA, upF, gIO, gH, gO, gN, iA, jD, fY, gB, gX, iB, gS, gM, gU, jK, iX, kA, gK, Nat.reduceAdd, Nat.reduceSub]); exact rfl)) | fail) (h0 : heap[i0]? = some o0 := by first | exact rfl | fail) (hc0 : al.contains i0 = true := by first | exact rfl | fail) (hh : BH heap U = heap' := by first | (((try simp only [BT, BH, kI, kZ, lO, upO, upA, upF, gIO, gH, gO, gN, iA, jD, fY, gB, gX, iB, gS, gM, gU, jK, iX, kA, gK, Nat.reduceAdd, Nat.reduceSub]); exact rfl)) | fail) : RG P ops n F (o :: rest) acc T heap := t6_ hw hd hf ho i0 sel hc hn hb hnd hL ha hH hp hN hr hU h0 hc0 hh k
theorem kAW {c:Code} (k:AW P c Q n T heap):AW P c Q n T heap:=k
theorem ufB (i j:Nat) {c:Code} {E:TypeId} {s:Nat} {els:List (List Tr)} {t:TypeId} {cs cs':List AV} (k:AW P c Q n T heap') (hi:heap[i]? = some (.row k' E s els):=by first|exact rfl|fail) (hj:heap[j]? = some (.box t cs):=by first|exact rfl|fail) (hr:FzL i k' els cs cs':=by first|((repeat' (first|exact FzR.nlt|exact FzR.all dC|exact FzR.sl cY|exact FzR.sub cY|apply FzR.aggL|exact FzL.nil|apply FzL.cons|exact FzR.same _|fail));(first|done|fail))|fail) (hh:(heap.set i (.gone k')).set j (.box t cs')=heap':=by first|(((try simp only [jJ,iY,iA,gN,gM,gS,gU,fY,gB,gX,iB,gH,gO,jZ,jD,gK,iK,Nat.reduceAdd,Nat.reduceSub]);exact rfl))|fail):AW P c Q n T heap:=AW.wk (Wk.freezeB i hi j hj hr hh) k
theorem ufR {id:Nat} (i d:Nat) {l:Array Oper} {b:Bool} {E:TypeId} {s:Nat} {els:List (List Tr)} {y:AV} (k:AW P (.region id l b) Q n (pu T d y) heap') (hi:heap[i]? = some (.row k' E s els):=by first|exact rfl|fail) (hr:FzR i k' els (evA n T (.tmp d)) y:=by first|((repeat' (first|exact FzR.nlt|exact FzR.all dC|exact FzR.sl cY|exact FzR.sub cY|apply FzR.aggL|exact FzL.nil|apply FzL.cons|exact FzR.same _|fail));(first|done|fail))|fail) (hh:heap.set i (.gone k')=heap':=by first|(((try simp only [jJ,iY,iA,gN,gM,gS,gU,fY,gB,gX,iB,gH,gO,jZ,jD,gK,iK,Nat.reduceAdd,Nat.reduceSub]);exact rfl))|fail):AW P (.region id l b) Q n T heap:=AW.wk (Wk.freeze i hi d rfl hr hh) k
theorem fnz (i:Nat) {fn:Func} {R:AV→List Ob→Prop} {t:TypeId} {cs cs':List AV} (k:Go.Proofs.YtccefppppedgkaaGreat.Fin P fn R n T heap') (hi:heap[i]? = some (.box t cs):=by first|exact rfl|fail) (h:NzL cs cs':=by first|((repeat' (first|exact NzR.nlt|apply NzR.aggL|exact NzL.nil|apply NzL.cons|exact NzR.same _|fail));(first|done|fail))|fail) (hh:heap.set i (.box t cs')=heap':=by first|(((try simp only [jJ,iY,iA,gN,gM,gS,gU,fY,gB,gX,iB,gH,gO,jZ,jD,gK,iK,Nat.reduceAdd,Nat.reduceSub]);exact rfl))|fail):Go.Proofs.YtccefppppedgkaaGreat.Fin P fn R n T heap:=Fin.wk (Wk.nzB i hi h hh) k
end
end
section
attribute [local irreducible] AL AW RG Fin C Cd Cio AI AF AN
def why (t:Int) (nf no:Nat):Int:=if t≠0∨0<nf then 0 else if 0<no then 6 else 7
theorem AoD (i t sp:Int) (fr:List CN) (ol:List CD):Cd Tryz.prog 228 [.agg [i64 i,i64 t,.ln (fr.map tSl),.ln (ol.map tOd),i64 sp]] (i64 (why t fr.length ol.length)) []:=by
 have h1:(ol.map tOd).length=ol.length:=fH _
 have h2:(fr.map tSl).length=fr.length:=fH _
 refine ZEN Tryz.func228 Tryz.ntmps228 ?_
 repeat' (first|refine A0 ?_|refine uS 8 (fun hb=>?_) (fun hb=>?_)|refine ZK2 (fun hc=>?_) (fun hc=>?_)|fail)
 all_goals ((first|exact A5 Tryz.results228|refine A7 Tryz.results228 ?_|refine A8 Tryz.results228 ?_ ?_ ?_<;>repeat' (first|exact ZE1|refine ZE2 ?_ ?_|refine ZE3 ?_|exact ZE4|fail)))
 all_goals (unfold why;repeat (first|rw [fL (by omega)]|rw [fM (by omega)]))
def o3_ (t:Int) (nf no:Nat) (limit:Int):Bool:=decide (0<no∧(limit≤no∨(t=0∧nf=0)))
theorem AkO (i t sp lim:Int) (fr:List CN) (ol:List CD):Cd Tryz.prog 188 [.agg [i64 i,i64 t,.ln (fr.map tSl),.ln (ol.map tOd),i64 sp],i64 lim] (bo (o3_ t fr.length ol.length lim)) []:=by
 have h1:(ol.map tOd).length=ol.length:=fH _
 have h3:why t fr.length ol.length=0↔(t≠0∨0<fr.length):=by
  unfold why
  repeat' split
  all_goals omega
 refine ZEN Tryz.func188 Tryz.ntmps188 ?_
 repeat' (first|(refine ZAL ?_;first|refine uA ?_|refine uK (AoD i t sp fr ol) ?_)|refine uC ?_|refine uS 9 (fun hb=>?_) (fun hb=>?_)|refine uS 15 (fun hb=>?_) (fun hb=>?_)|refine ZK2 (fun hc=>?_) (fun hc=>?_)|fail)
 all_goals ((first|exact A5 Tryz.results188|refine A7 Tryz.results188 ?_|refine A8 Tryz.results188 ?_ ?_ ?_<;>repeat' (first|exact ZE1|refine ZE2 ?_ ?_|refine ZE3 ?_|exact ZE4|fail)))
 all_goals (unfold o3_;first|(rw [fR (by omega)];done)|(rw [fP (by omega)];done)|(congr 2;rw [kV];omega))
theorem ZI (h:Int) (h1 : -9223372036854775808≤h∧h≤9223372036854775807):Cd Tryz.prog 195 [i64 h] (.tup [i64 (plP h),i64 (plG h),bo (IZ h)]) []:=by
 by_cases hk:8≤h∧h≤32767
 ·rw [(RZ hk.1 hk.2).1,(RZ hk.1 hk.2).2.1,(RZ hk.1 hk.2).2.2]
  refine ZEN Tryz.func195 Tryz.ntmps195 ?_
  repeat' (first|refine A0 ?_|fail)
  all_goals exact Dk Tryz.results195
 ·rw [(q_ hk).1,(q_ hk).2.1,(q_ hk).2.2]
  refine ZEN Tryz.func195 Tryz.ntmps195 ?_
  repeat' (first|refine A0 ?_|refine uS 7 (fun hb=>?_) (fun hb=>?_)|fail)
  all_goals exact Dk Tryz.results195
end
end Go.Proofs.YtccefppppedgkaaGreat
namespace Go.Proofs.YtccefppppedgkaaGreat
def RX (inn:Int) (outs:List Int) (j:Nat):Prop:=IZ (outs.getD j 0)=true∧outs.getD j 0≠inn∧outs.getD j 0 ∉ outs.take j
def GP (inn:Int) (outs:List Int):Prop:=IZ inn=true∧1≤outs.length∧outs.length≤8 ∧ ∀j,j<outs.length→RX inn outs j
end Go.Proofs.YtccefppppedgkaaGreat
