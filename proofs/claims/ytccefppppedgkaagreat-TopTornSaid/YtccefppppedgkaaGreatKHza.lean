/- Joined: XTopJ, XTopK, XTopL, XTopO, XTopP, XTopQ, XTopR, XTopS, XTopT, XTopU, XTopW, XTTaskP. -/
import Derived.Test.YtccefppppedgkaaGreatKHz
set_option linter.unusedVariables false
set_option linter.unusedSimpArgs false
set_option linter.unnecessarySimpa false
set_option maxRecDepth 100000
set_option maxHeartbeats 64000000
namespace Go.Proofs.YtccefppppedgkaaGreat
abbrev Nm:=Int × List Int
def AcN (c:AB) (m:Mm) (w:Nm):Prop:=ld m (aNode c (rdI w.1))=rdT w.1 ∧ ∀k:Nat,k<w.2.length→ld m (aNode c (rdI w.1)+1+k)=w.2.getD k 0
def ZP (m:Mm) (l:List AC) (b h:Int):Prop :=
 ld m 0=b∨(∃(u:Nat) (y:AC),l[u]? = some y∧DT y=true∧wdF y.base=b) ∨ ∃(u:Nat) (y:AC) (o:CD),l[u]? = some y∧o∈y.pool.old∧wdF o.ref=b∧h≤o.stamp
def XF (m:Mm) (l:List AC) (b:Int):Prop :=
 ld m 0=b∨(∃(u:Nat) (y:AC),l[u]? = some y∧DT y=true∧wdF y.base=b) ∨ ∃(u:Nat) (y:AC) (o:CD),l[u]? = some y∧o∈y.pool.old∧wdF o.ref=b
theorem ZP.held {m:Mm} {l:List AC} {b h:Int} (k:ZP m l b h):XF m l b:=by
 rcases k with k|k|⟨u,y,o,k1,k2,k3,_⟩
 ·exact .inl k
 ·exact .inr (.inl k)
 ·exact .inr (.inr ⟨u,y,o,k1,k2,k3⟩)
def inE (x:AC):Prop:=(3≤x.pc∧x.pc≤28∧x.waits=false)∨(32≤x.pc∧x.pc≤38)
structure Inv (c:AB) (S:List Nm) (H:Nat→Int) (m:Mm) (l:List AC):Prop where
 wl:(m.w.length:Int)=totL c
 ll:(l.length:Int)=c.threads
 g0:0≤ld m 1
 loc : ∀(t:Nat) x,l[t]? = some x→AQ c x
 sok : ∀w∈S,ND w.1=true∧(0≤w.1∧w.1<18446744073709551616)∧(0≤rdI w.1∧rdI w.1<nodesL c)∧rdT w.1≤c.tags∧(w.2.length:Int)=sizeC c
 snd:(S.map (·.1)).Nodup
 root : ∃r,(ld m 0,r)∈S
 rmx : ∀w∈S,rdI w.1=rdI (ld m 0)→rdT w.1≤rdT (ld m 0)
 own : ∀(t:Nat) x,l[t]? = some x→x.pool.own.tag≠0→1≤x.pool.own.tag∧x.pool.own.tag≤c.tags
 prg : ∀(t:Nat) x,l[t]? = some x → ∀p∈plc x,(0≤p.1∧p.1<nodesL c) ∧ ∀w∈S,rdI w.1=p.1→rdT w.1≤p.2
 pnd : ∀(t:Nat) x,l[t]? = some x→((plc x).map (·.1)).Nodup
 pdj : ∀(t u:Nat) x y,t≠u→l[t]? = some x→l[u]? = some y → ∀p∈plc x,∀q∈plc y,p.1≠q.1
 prt : ∀(t:Nat) x,l[t]? = some x → ∀p∈plc x,p.1≠rdI (ld m 0)
 olS : ∀(t:Nat) x o,l[t]? = some x→o∈x.pool.old→(∃r,(wdF o.ref,r)∈S)∧o.ref=rdF (wdF o.ref)
 baS : ∀(t:Nat) x,l[t]? = some x→Rdg x∨DT x=true→(∃r,(wdF x.base,r)∈S)∧x.base=rdF (wdF x.base)
 cont : ∀w∈S,XF m l w.1→AcN c m w
 rep : ∀(t:Nat) x,l[t]? = some x→Rdg x→x.epoch≤H t∧H t≤ld m 1∧ld m 1≤H t+1∧ld m (aEpo c t)=GM x.epoch
 viv : ∀(t:Nat) x,l[t]? = some x→Vdg x→ZP m l (wdF x.base) (H t)
 vhz : ∀(t:Nat) x,l[t]? = some x→(5≤x.pc∧x.pc≤15)∨(34≤x.pc∧x.pc≤36)→ld m (aHaz c t)=wdF x.base
 buf : ∀(t:Nat) x r,l[t]? = some x→(wdF x.base,r)∈S→(x.pc=7→x.buf=r.take x.buf.length)∧(8≤x.pc→x.pc≤15→x.buf=r)
 sg : ∀(u:Nat) y,l[u]? = some y→y.pc=25∨y.pc=26→0≤y.word∧y.word≤ld m 1
 sE : ∀(r s:Nat) x y,l[r]? = some x→l[s]? = some y→Rdg x→(y.pc=25→H r<y.word→(r:Int)<y.i→y.all_=false)∧(y.pc=26→y.word≤H r)
 sG : ∀(r s:Nat) x y o,l[r]? = some x→l[s]? = some y→Vdg x→y.pc=27→(r:Int)<y.i→o∈y.pool.old→wdF o.ref=wdF x.base→wdF x.base∈y.seen
 ep : ∀(t:Nat) x,l[t]? = some x→(inE x→ld m (aEpo c t)=GM x.epoch)∧(inE x∨x.pc=2∨x.pc=31→0≤x.epoch∧x.epoch≤ld m 1)
 oc : ∀(t:Nat) x,l[t]? = some x→x.pc=14∨x.pc=15→ld m (aNode c x.pool.own.index)=x.pool.own.tag ∧ ∀k:Nat,(k:Int)<sizeC c→(x.pc=14→(k:Int)<x.i)→ld m (aNode c x.pool.own.index+1+k)=x.nxt.getD k 0
 nx : ∀(t:Nat) x,l[t]? = some x→13≤x.pc→x.pc≤15→x.nxt=allO c x.buf x.found
theorem AG {l:List AC} {t u:Nat} {x' y:AC} (h:(l.set t x')[u]? = some y):(u=t∧y=x')∨(u≠t∧l[u]? = some y):=by
 rw [gY] at h
 split at h
 ·rename_i e
  split at h
  ·cases h;exact .inl ⟨e.symm,rfl⟩
  ·cases h
 ·rename_i e;exact .inr ⟨fun g=>e g.symm,h⟩
theorem BaP {w:Int} (h:ND w=true) (h0:0≤w) (h1:w<18446744073709551616):wdF (rdF w)=w:=(u9_ h0 h1 h).2
theorem EV {x:AC} (h:x.pool.own.tag≠0):(x.pool.own.index,x.pool.own.tag-1)∈plc x:=by
 unfold plc EC
 rw [fT h]
 simp
theorem t7_ {x:AC} {o:CD} (h:o∈x.pool.old):(o.ref.index,o.ref.tag)∈plc x:=by
 unfold plc EC
 exact iZ _ (iR _ (iR _ (iW.2 ⟨o,h,rfl⟩)))
theorem AfK {x:AC} (h:DT x=true):(x.base.index,x.base.tag)∈plc x:=by
 unfold plc
 rw [h]
 simp
theorem n_ {x:AC} (hn:((plc x).map (·.1)).Nodup) (h:x.pool.own.tag≠0) {o:CD} (ho:o∈x.pool.old):o.ref.index≠x.pool.own.index:=by
 intro e
 unfold plc EC at hn
 rw [fT h,mK,gZ,gO,lG] at hn
 exact hn.1 (iW.2 ⟨(o.ref.index,o.ref.tag),iZ _ (iR _ (iW.2 ⟨o,ho,rfl⟩)),e⟩)
section
variable {c:AB} {S:List Nm} {H:Nat→Int} {m:Mm} {l:List AC} {t:Nat} {x:AC}
theorem Inv.tlt (I:Inv c S H m l) {u:Nat} {y:AC} (h:l[u]? = some y):(u:Int)<c.threads:=by
 have:=(iJ.1 h).1
 have:=I.ll
 omega
theorem Inv.ctx (I:Inv c S H m l) (f:Okc c) (h:l[t]? = some x) (h0:x.pc≠0):Ctx c t x m :=
 ⟨f,I.loc t x h,h0,I.tlt h,fun e=>(I.prg t x h _ (EV e)).1,I.wl⟩
theorem AhE (I:Inv c S H m l) (h:l[t]? = some x) (h0:(stepT c t x m).x.pool.own.tag≠0):1≤(stepT c t x m).x.pool.own.tag∧(stepT c t x m).x.pool.own.tag≤c.tags:=by
 have hl:=I.loc t x h
 have ho:=I.own t x h
 by_cases h2:x.pc=2
 ·rw [TN h2] at h0 ⊢;exact WX h0 ho
 ·by_cases h15:x.pc=15
  ·by_cases hr:ld m 0=wdF x.base
   ·rw [JZ h15 hr] at h0;exact absurd rfl h0
   ·rw [HY h15 hr] at h0 ⊢;exact ho h0
  ·by_cases hk:x.pc=24∨x.pc=26∨x.pc=27
   ·have e0:(DP c t x m).own=x.pool.own:=by
     unfold DP
     repeat' split
     all_goals rfl
    rcases HZ (t:=t) (m:=m) (c:=c) hk with e|e
    ·rw [e,e0] at h0 ⊢;exact ho h0
    ·rw [e] at h0 ⊢;exact WX h0 (by rw [e0];exact ho)
   ·by_cases h21:x.pc=21
    ·rw [KL h21] at h0 ⊢;exact ho h0
    ·rw [ER hl h2 h15 h21 (by omega) (by omega) (by omega)] at h0 ⊢;exact ho h0
theorem VS (hl:AQ c x) (hr : ¬(x.pc=15∧ld m 0=wdF x.base)) (hi:DT (stepT c t x m).x=true):DT x=true∧(stepT c t x m).x.base=x.base:=by
 have hw:(stepT c t x m).x.won=true:=by unfold DT at hi;simp only [gG] at hi;exact hi.1
 have hxw:=QF hl hr hw
 by_cases h20:x.pc=20
 ·refine ⟨by unfold DT;rw [hxw,h20];rfl,?_⟩
  rw [u3_ h20]
 ·rw [UC hl hxw h20] at hi;cases hi
theorem AlR (hl:AQ c x) (hi:DT x=true):(DT (stepT c t x m).x=true∧(stepT c t x m).x.base=x.base)∨(x.pc=21∧⟨x.base,ld m 1⟩∈(stepT c t x m).x.pool.old):=by
 have hw:x.won=true∧(x.pc=20∨x.pc=21):=by
  unfold DT at hi
  simp only [gG,lS,gM] at hi
  exact hi
 rcases hw.2 with h20|h21
 ·left
  rw [u3_ h20]
  refine ⟨?_,rfl⟩
  unfold DT
  rw [hw.1]
  rfl
 ·right
  refine ⟨h21,?_⟩
  rw [KL h21]
  exact iR _ (by simp)
theorem XF.back (hl:AQ c x) (h:l[t]? = some x) (hr : ¬(x.pc=15∧ld m 0=wdF x.base)) (h0:ld (stepT c t x m).m 0=ld m 0) {b:Int} (k:XF (stepT c t x m).m (l.set t (stepT c t x m).x) b):XF m l b:=by
 rcases k with k|⟨u,y,k1,k2,k3⟩|⟨u,y,o,k1,k2,k3⟩
 ·exact .inl (h0▸k)
 ·rcases AG k1 with ⟨rfl,rfl⟩|⟨_,k1⟩
  ·obtain ⟨e1,e2⟩:=VS hl hr k2
   exact .inr (.inl ⟨u,x,h,e1,by rw [←e2];exact k3⟩)
  ·exact .inr (.inl ⟨u,y,k1,k2,k3⟩)
 ·rcases AG k1 with ⟨rfl,rfl⟩|⟨_,k1⟩
  ·rcases YN hl k2 with k2|⟨h21,rfl⟩
   ·exact .inr (.inr ⟨u,x,o,h,k2,k3⟩)
   ·exact .inr (.inl ⟨u,x,h,by unfold DT;rw [hl.won21 h21,h21];rfl,k3⟩)
  ·exact .inr (.inr ⟨u,y,o,k1,k2,k3⟩)
theorem ZP.step (hl:AQ c x) (h:l[t]? = some x) (h0:ld (stepT c t x m).m 0=ld m 0) {b g:Int} (hg:g≤ld m 1) (k:ZP m l b g) (hf : ∀o∈x.pool.old,wdF o.ref=b→g≤o.stamp→ZO c x m o→False):ZP (stepT c t x m).m (l.set t (stepT c t x m).x) b g:=by
 have hlt:=(iJ.1 h).1
 have hset:(l.set t (stepT c t x m).x)[t]? = some (stepT c t x m).x:=by rw [gY,fR rfl,fR hlt]
 have hoth : ∀(u:Nat) y,u≠t→l[u]? = some y→(l.set t (stepT c t x m).x)[u]? = some y:=fun u y hu hy=>by rw [gY,fT (Ne.symm hu)];exact hy
 rcases k with k|⟨u,y,k1,k2,k3⟩|⟨u,y,o,k1,k2,k3,k4⟩
 ·exact .inl (h0.trans k)
 ·by_cases hu:u=t
  ·subst hu
   rw [h] at k1;cases k1
   rcases AlR (t:=u) (m:=m) hl k2 with ⟨e1,e2⟩|⟨e1,e2⟩
   ·exact .inr (.inl ⟨u,_,hset,e1,by rw [e2];exact k3⟩)
   ·exact .inr (.inr ⟨u,_,_,hset,e2,k3,hg⟩)
  ·exact .inr (.inl ⟨u,y,hoth u y hu k1,k2,k3⟩)
 ·by_cases hu:u=t
  ·subst hu
   rw [h] at k1;cases k1
   rcases AhB (t:=u) (m:=m) hl k2 with e|e
   ·exact .inr (.inr ⟨u,_,o,hset,e,k3,k4⟩)
   ·exact (hf o k2 k3 k4 e).elim
  ·exact .inr (.inr ⟨u,y,o,hoth u y hu k1,k2,k3,k4⟩)
end
end Go.Proofs.YtccefppppedgkaaGreat
namespace Go.Proofs.YtccefppppedgkaaGreat
def t1_ (H:Nat→Int) (t:Nat) (x:AC) (m:Mm):Nat→Int:=fun u=>if u=t∧(x.pc=3∨x.pc=32) then ld m 1 else H u
theorem YH {H:Nat→Int} {t u:Nat} {x:AC} {m:Mm} (h:u≠t):t1_ H t x m u=H u:=fT fun e=>h e.1
theorem YI {H:Nat→Int} {t:Nat} {x:AC} {m:Mm} (h : ¬(x.pc=3∨x.pc=32)):t1_ H t x m t=H t:=fT fun e=>h e.2
theorem t2_ {H:Nat→Int} {t:Nat} {x:AC} {m:Mm} (h:x.pc=3∨x.pc=32):t1_ H t x m t=ld m 1:=fR ⟨rfl,h⟩
section
variable {c:AB} {S:List Nm} {H:Nat→Int} {m:Mm} {l:List AC} {t:Nat} {x:AC}
theorem AaS (I:Inv c S H m l) (h:l[t]? = some x) {r:Nat} {y:AC} (hy:l[r]? = some y) (hv:Vdg y) {o:CD} (ho:o∈x.pool.old) (hb:wdF o.ref=wdF y.base) (hs:H r≤o.stamp) : ¬ZO c x m o:=by
 have hrd:Rdg y:=by unfold Vdg at hv;unfold Rdg;omega
 obtain ⟨r1,r2,r3,r4⟩:=I.rep r y hy hrd
 have hl:=I.loc t x h
 rintro (⟨hp,hf⟩|⟨hp,hw,hf⟩|⟨hp,hi,hf⟩)
 ·unfold prE AhI at hf
  have:=jO hf
  omega
 ·have:=(I.sE r t y x hy h hrd).2 hp
  unfold prE AhI at hf
  have:=jO hf
  omega
 ·have hseen:wdF y.base∈x.seen++[ld m (aHaz c x.i)]:=by
   have hrt:=I.tlt hy
   by_cases e:(r:Int)<x.i
   ·exact iZ _ (I.sG r t y x o hy h hv hp e ho hb)
   ·have e2:x.i=(r:Int):=by omega
    rw [e2,I.vhz r y hy (by unfold Vdg at hv;omega)]
    exact iR _ (by simp)
  unfold prS at hf
  have hn:word o.ref.index o.ref.tag ∉ x.seen++[ld m (aHaz c x.i)]:=by simpa using hf
  exact hn (by rw [show word o.ref.index o.ref.tag=wdF o.ref from rfl,hb];exact hseen)
theorem Rdg.of_v {x:AC} (h:Vdg x):Rdg x:=by unfold Vdg at h;unfold Rdg;omega
theorem AvV (hl:AQ c x) (h0:x.pc≠0) (hv:(5≤(stepT c t x m).x.pc∧(stepT c t x m).x.pc≤15)∨(34≤(stepT c t x m).x.pc∧(stepT c t x m).x.pc≤36)):x.pc=4∨x.pc=33∨(5≤x.pc∧x.pc≤15)∨(34≤x.pc∧x.pc≤36):=by
 refine GQ (t:=t) (m:=m) hl h0 fun k hk1 hk2 hp=>?_
 generalize (stepT c t x m).x.pc=p at *
 have hz:=AS hk2
 repeat' (rcases hz with rfl|hz)
 all_goals (simp only [BW,iH,lO,or_false] at hp<;>omega)
theorem ArM (hl:AQ c x) (h0:x.pc≠0) (h1:7≤(stepT c t x m).x.pc) (h2:(stepT c t x m).x.pc≤15):x.pc=6∧(stepT c t x m).x.pc=7∨x.pc=7∧((stepT c t x m).x.pc=7∨(stepT c t x m).x.pc=8)∨(8≤x.pc∧x.pc≤15∧8≤(stepT c t x m).x.pc):=by
 refine GQ (t:=t) (m:=m) hl h0 fun k hk1 hk2 hp=>?_
 generalize (stepT c t x m).x.pc=p at *
 have hz:=AS hk2
 repeat' (rcases hz with rfl|hz)
 all_goals (simp only [BW,iH,lO,or_false] at hp<;>omega)
theorem AqC (hl:AQ c x) (h0:x.pc≠0) (h1:13≤(stepT c t x m).x.pc) (h2:(stepT c t x m).x.pc≤15):((x.pc=11∨x.pc=12)∧(stepT c t x m).x.pc=13)∨(x.pc=13∧(stepT c t x m).x.pc=14)∨(x.pc=14∧((stepT c t x m).x.pc=14∨(stepT c t x m).x.pc=15)):=by
 refine GQ (t:=t) (m:=m) hl h0 fun k hk1 hk2 hp=>?_
 generalize (stepT c t x m).x.pc=p at *
 have hz:=AS hk2
 repeat' (rcases hz with rfl|hz)
 all_goals (simp only [BW,iH,lO,or_false] at hp<;>omega)
theorem AjJ (hl:AQ c x) (h28:x.pc≠28) (h29:x.pc≠29) (hp:(stepT c t x m).x.pc≠0):(stepT c t x m).x.waits=x.waits:=by
 obtain ⟨k,hk1,hk2, -⟩:=BA hl
 rw [AE hk1] at hp ⊢
 revert hp
 have hz:=AS hk2
 repeat' (rcases hz with rfl|hz)
 all_goals first|(exfalso;omega)|(intro _;rfl)|(simp only [AN,s1,s2,s3,s4,s5,s6,s7,s8,s9,s10,s11,s12,s13,s14,s15,s16,s17,s18,s19,s20,s21,s22,s23,s24,s25,s26,s27,s30,s31,s32,s33,s34,s35,s36,s37,s38,failT,againT,nextSeqT,nextMailT,CE,BB,ownedT,finishT,AK,scannedT,takeT,refuseT];(repeat' split)<;>first|(intro _;rfl)|(intro e;exact absurd rfl e))
theorem AsH (hl:AQ c x) (h0:x.pc≠0) (hv:inE (stepT c t x m).x):x.pc=2∨x.pc=31∨(inE x∧x.pc≠28∧x.pc≠38∧x.pc≠2∧x.pc≠31∧x.pc≠1∧x.pc≠30∧x.pc≠29∧(x.pc=22∨x.pc=23→(stepT c t x m).x.epoch=x.epoch)):=by
  have hw:x.pc≠28→x.pc≠29→(stepT c t x m).x.pc≠0→(stepT c t x m).x.waits=x.waits:=fun a b d=>AjJ hl a b d
  have ha:=hl.at_
  have key:x.pc=2∨x.pc=31∨(inE x∧x.pc≠28∧x.pc≠38∧x.pc≠2∧x.pc≠31∧x.pc≠1∧x.pc≠30∧x.pc≠29):=by
    obtain ⟨k,hk1,hk2,ha⟩:=BA hl
    have hp:=TG (t:=t) (m:=m) hl h0 hk1
    unfold inE at *
    generalize (stepT c t x m).x.pc=p at *
    generalize (stepT c t x m).x.waits=w at *
    have hz:=AS hk2
    repeat' (rcases hz with rfl|hz)
    all_goals try (simp only [BW,iH,lO,or_false] at hp)
    all_goals first
      |omega
      | (have e:=hw (by omega) (by omega) (by omega)
         have e2:w=false:=by rcases hv with hv|hv;exact hv.2.2;omega
         rw [e2] at e
         refine .inr (.inr ⟨.inl ⟨by omega,by omega,e.symm⟩,by omega,by omega,by omega,by omega,by omega,by omega,by omega⟩))
      | (exfalso
         have e:=hw (by omega) (by omega) (by omega)
         have e2:=ha.2.2.1
         have e3:w=false:=by rcases hv with hv|hv;exact hv.2.2;omega
         rw [e2,e3] at e
         cases e)
  rcases key with k|k|k
  · exact .inl k
  · exact .inr (.inl k)
  · refine .inr (.inr ⟨k.1,k.2.1,k.2.2.1,k.2.2.2.1,k.2.2.2.2.1,k.2.2.2.2.2.1,k.2.2.2.2.2.2.1,k.2.2.2.2.2.2.2,fun h2=>?_⟩)
    have hpc:(stepT c t x m).x.pc≠0:=by unfold inE at hv;omega
    revert hpc
    rcases h2 with h2|h2
    · rw [AE (k:=22) h2];simp only [AN,s22,ownedT,finishT,AK];(repeat' split)<;>first|(intro _;rfl)|(intro e;exact absurd rfl e)
    · rw [AE (k:=23) h2];simp only [AN,s23,ownedT,finishT,AK];(repeat' split)<;>first|(intro _;rfl)|(intro e;exact absurd rfl e)
end
end Go.Proofs.YtccefppppedgkaaGreat
namespace Go.Proofs.YtccefppppedgkaaGreat
section
variable {c:AB} {S:List Nm} {H:Nat→Int} {m:Mm} {l:List AC} {t:Nat} {x:AC}
theorem r6_ (I:Inv c S H m l) (h:l[t]? = some x) (h1:x.pool.own.tag≠0) (h2:DT x=false) {w:Nm} (hw:XF m l w.1):rdI w.1≠x.pool.own.index:=by
 intro e
 have ho:=EV h1
 rcases hw with k|⟨u,y,k1,k2,k3⟩|⟨u,y,o,k1,k2,k3⟩
 ·exact I.prt t x h _ ho (by rw [k];exact e.symm)
 ·have hb:=(I.baS u y k1 (.inr k2)).2
  have hi:rdI w.1=y.base.index:=by rw [←k3];exact (congrArg HA.index hb).symm
  by_cases hu:u=t
  ·subst hu;rw [h] at k1;cases k1;rw [h2] at k2;cases k2
  ·exact I.pdj u t y x hu k1 h _ (AfK k2) _ ho (hi.symm.trans e)
 ·have hb:=(I.olS u y o k1 k2).2
  have hi:rdI w.1=o.ref.index:=by rw [←k3];exact (congrArg HA.index hb).symm
  by_cases hu:u=t
  ·subst hu;rw [h] at k1;cases k1
   exact n_ (I.pnd u x h) h1 k2 (hi.symm.trans e)
  ·exact I.pdj u t y x hu k1 h _ (t7_ k2) _ ho (hi.symm.trans e)
theorem OC (I:Inv c S H m l) (f:Okc c) (h:l[t]? = some x) (h0:x.pc≠0) {w:Nm} (hw:w∈S) (hh:XF m l w.1) (k:AcN c m w):AcN c (stepT c t x m).m w:=by
 have K:=I.ctx f h h0
 obtain ⟨-, -,hr, -,hz⟩:=I.sok w hw
 have hn:(x.pc≠13∧x.pc≠14)∨rdI w.1≠x.pool.own.index:=by
  by_cases hp:x.pc=13∨x.pc=14
  ·right
   exact r6_ I h (K.h.own_at (by omega) (by omega)) (QT (by omega) (by omega)) hh
  ·exact .inl (by omega)
 have hf:=f.facts
 refine ⟨?_,fun q hq=>?_⟩
 ·have:=K.node hr.1 hr.2 (gL 0) (by omega) hn
  rw [nD] at this
  rw [this];exact k.1
 ·have:=K.node hr.1 hr.2 (q:=1+(q:Int)) (by omega) (by omega) hn
  rw [←mI] at this
  rw [this];exact k.2 q hq
theorem AiD (I:Inv c S H m l):wdF (rdF (ld m 0))=ld m 0:=by
 obtain ⟨r,hr⟩:=I.root
 obtain ⟨h1,h2, -⟩:=I.sok _ hr
 exact BaP h1 h2.1 h2.2
theorem w5_ (p:x.pc=14):(stepT c t x m).x.i=x.i+1∧(stepT c t x m).x.nxt=x.nxt∧((stepT c t x m).x.pc=15→x.i+1=(x.nxt.length:Int)):=by
 rw [AE (k:=14) p]
 have e:(AN 14 c t x m).x=(s14 c t x m).x:=rfl
 rw [e]
 unfold s14
 dsimp only
 by_cases g:x.i+1=(x.nxt.length:Int)
 ·rw [fR g];exact ⟨rfl,rfl,fun _=>g⟩
 ·rw [fT g];exact ⟨rfl,rfl,fun e=>by dsimp only at e;omega⟩
theorem AfL (f:Okc c) (I:Inv c S H m l) (h:l[t]? = some x) (h0:x.pc≠0) (hr : ¬(x.pc=15∧ld m 0=wdF x.base)):Inv c S (t1_ H t x m) (stepT c t x m).m (l.set t (stepT c t x m).x):=by
 have K:=I.ctx f h h0
 have hl:=K.h
 have hl':=PF (t:=t) (m:=m) f hl h0
 have hf:=f.facts
 have W0:=K.root hr
 have W1:=K.glob
 have hF:=AeI (t:=t) hl hr
 have hmono:ld m 1≤ld (stepT c t x m).m 1:=by rcases W1 with e|⟨_,e1,e2⟩<;>omega
 have hG : ∀(r:Nat) y,l[r]? = some y→Rdg y→ld (stepT c t x m).m 1≤H r+1:=fun r y hy hv=>by
  have:=(I.rep r y hy hv).2.2.1
  rcases W1 with e|⟨e0,e1,e2⟩
  ·omega
  ·have:=(I.sE r t y x hy h hv).2 e0
   omega
 have hL : ∀(r:Nat) y,l[r]? = some y→Vdg y→ZP m l (wdF y.base) (H r)→ZP (stepT c t x m).m (l.set t (stepT c t x m).x) (wdF y.base) (H r):=fun r y hy hv k =>
  k.step hl h W0 (I.rep r y hy (Rdg.of_v hv)).2.1 fun o ho hb hs=>AaS I h hy hv ho hb hs
 constructor
 case wl=>exact K.wl'
 case ll=>rw [iS];exact I.ll
 case g0=>have:=I.g0;omega
 case loc =>
  intro u y hy
  rcases AG hy with ⟨rfl,rfl⟩|⟨_,hy⟩
  ·exact hl'
  ·exact I.loc u y hy
 case sok=>exact I.sok
 case snd=>exact I.snd
 case root=>rw [W0];exact I.root
 case rmx=>rw [W0];exact I.rmx
 case own =>
  intro u y hy
  rcases AG hy with ⟨rfl,rfl⟩|⟨_,hy⟩
  ·exact AhE I h
  ·exact I.own u y hy
 case prg =>
  intro u y hy p hp
  rcases AG hy with ⟨rfl,rfl⟩|⟨_,hy⟩
  ·exact I.prg u x h p (hF.1 p hp)
  ·exact I.prg u y hy p hp
 case pnd =>
  intro u y hy
  rcases AG hy with ⟨rfl,rfl⟩|⟨_,hy⟩
  ·exact hF.2 (I.pnd u x h)
  ·exact I.pnd u y hy
 case pdj =>
  intro u v y z huv hy hz p hp q hq
  rcases AG hy with ⟨e1,e2⟩|⟨h1,hy1⟩
  ·rcases AG hz with ⟨e3,e4⟩|⟨h2,hz1⟩
   ·exact absurd (e1.trans e3.symm) huv
   ·rw [e2] at hp;exact I.pdj t v x z (e1▸huv) h hz1 p (hF.1 p hp) q hq
  ·rcases AG hz with ⟨e3,e4⟩|⟨h2,hz1⟩
   ·rw [e4] at hq;exact I.pdj u t y x h1 hy1 h p hp q (hF.1 q hq)
   ·exact I.pdj u v y z huv hy1 hz1 p hp q hq
 case prt =>
  intro u y hy p hp
  rw [W0]
  rcases AG hy with ⟨rfl,rfl⟩|⟨_,hy⟩
  ·exact I.prt u x h p (hF.1 p hp)
  ·exact I.prt u y hy p hp
 case olS =>
  intro u y o hy ho
  rcases AG hy with ⟨rfl,rfl⟩|⟨_,hy⟩
  ·rcases YN hl ho with ho|⟨h21,rfl⟩
   ·exact I.olS u x o h ho
   ·exact I.baS u x h (.inr (by unfold DT;rw [hl.won21 h21,h21];rfl))
  ·exact I.olS u y o hy ho
 case baS =>
  intro u y hy hv
  rcases AG hy with ⟨rfl,rfl⟩|⟨_,hy⟩
  ·rcases hv with hv|hv
   ·rcases ZD hl h0 hv with ⟨e1,e2,_⟩|⟨_,e2,_⟩
    ·rw [e2];exact I.baS u x h (.inl e1)
    ·rw [e2,AiD I];exact ⟨I.root,rfl⟩
   ·obtain ⟨e1,e2⟩:=VS hl hr hv
    rw [e2];exact I.baS u x h (.inr e1)
  ·exact I.baS u y hy hv
 case cont =>
  intro w hw hh
  have hh':=XF.back hl h hr W0 hh
  exact OC I f h h0 hw hh' (I.cont w hw hh')
 case rep =>
  intro u y hy hv
  rcases AG hy with ⟨rfl,rfl⟩|⟨hu,hy⟩
  ·rcases ZD hl h0 hv with ⟨e1,e2,e3⟩|⟨e1,e2,e3⟩
   ·obtain ⟨r1,r2,r3,r4⟩:=I.rep u x h e1
    have hg:=hG u x h e1
    have hp : ¬(x.pc=3∨x.pc=32):=by unfold Rdg at e1;omega
    rw [e3,YI hp,K.epo K.ht (.inr (by unfold Rdg at e1;omega))]
    exact ⟨r1,by omega,hg,r4⟩
   ·have hE:=I.ep u x h
    have hi:inE x:=by
     unfold inE
     rcases e1 with e|e
     ·have ha:=hl.at_
      rw [e] at ha
      exact .inl ⟨by omega,by omega,ha.1.wai⟩
     ·exact .inr (by omega)
    have hb:=hE.2 (.inl hi)
    have hg:ld (stepT c u x m).m 1=ld m 1:=by rcases W1 with e|⟨e0,_⟩;exact e;omega
    rw [e3,t2_ e1,K.epo K.ht (.inr (by omega)),hg]
    exact ⟨hb.2,gL _,by omega,hE.1 hi⟩
  ·obtain ⟨r1,r2,r3,r4⟩:=I.rep u y hy hv
   have hg:=hG u y hy hv
   rw [YH hu,K.epo (I.tlt hy) (.inl hu)]
   exact ⟨r1,by omega,hg,r4⟩
 case viv =>
  intro u y hy hv
  rcases AG hy with ⟨rfl,rfl⟩|⟨hu,hy⟩
  ·obtain ⟨e1,e2,e3,e4⟩:=w6_ hl h0 hv
   have hp : ¬(x.pc=3∨x.pc=32):=by unfold Rdg at e2;omega
   rw [e3,YI hp]
   rcases e1 with e1|⟨_,e1⟩
   ·exact hL u x h e1 (I.viv u x h e1)
   ·exact .inl (by rw [W0];exact e1)
  ·rw [YH hu]
   exact hL u y hy hv (I.viv u y hy hv)
 case vhz =>
  intro u y hy hv
  rcases AG hy with ⟨rfl,rfl⟩|⟨hu,hy⟩
  ·have hp:=AvV hl h0 hv
   have hb:(stepT c u x m).x.base=x.base:=KN hl (by omega) (by omega) (by omega) (by omega) (by omega) (by omega)
   rw [hb]
   by_cases e:x.pc=4∨x.pc=33
   ·exact K.haz_set e
   ·rw [K.haz K.ht (.inr (by omega))]
    exact I.vhz u x h (by omega)
  ·rw [K.haz (I.tlt hy) (.inl hu)]
   exact I.vhz u y hy hv
 case buf =>
  intro u y r hy hS
  rcases AG hy with ⟨rfl,rfl⟩|⟨hu,hy⟩
  ·by_cases h7:7≤(stepT c u x m).x.pc∧(stepT c u x m).x.pc≤15
   ·have hp:=ArM hl h0 h7.1 h7.2
    have hb:(stepT c u x m).x.base=x.base:=KN hl (by omega) (by omega) (by omega) (by omega) (by omega) (by omega)
    rw [hb] at hS
    rcases hp with ⟨p1,p2⟩|⟨p1,p2⟩|⟨p1,p2,p3⟩
    ·rw [AxG p1 p2]
     exact ⟨fun _=>rfl,fun e=>by omega⟩
    ·have hB:=(I.buf u x r h hS).1 p1
     have ha:=hl.at_
     rw [p1] at ha
     obtain ⟨-,i0,i1,i2⟩:=ha
     have hz:(r.length:Int)=sizeC c:=(I.sok _ hS).2.2.2.2
     have hv:Vdg x:=by unfold Vdg;omega
     have hC:=I.cont _ hS (I.viv u x h hv).held
     have hbs:=(I.baS u x h (.inl (Rdg.of_v hv))).2
     have hi:rdI (wdF x.base)=x.base.index:=(congrArg HA.index hbs).symm
     have hlt:x.buf.length<r.length:=by omega
     have hw:=hC.2 x.buf.length hlt
     rw [hi,i2] at hw
     have hn:x.buf++[ld m (aNode c x.base.index+1+x.i)]=r.take (x.buf.length+1):=by
      rw [hw,iB, ←hB,ZgE hlt,fQ,ZgE hlt]
      rfl
     rw [AdJ p1]
     refine ⟨fun _=>by rw [hn,fY,kQ (by omega)],fun e1 _=>?_⟩
     have h8:At c (stepT c u x m).x (stepT c u x m).x.pc.toNat:=hl'.at_
     have p8:(stepT c u x m).x.pc=8:=by omega
     rw [p8] at h8
     have hlen:=h8.2.2
     rw [AdJ p1,fP,gT] at hlen
     rw [hn,jE (by omega)]
    ·have hB:=(I.buf u x r h hS).2 p1 p2
     rw [NM hl (by omega) (by omega) (by omega) (by omega) (by omega) (by omega)]
     exact ⟨fun e=>by omega,fun _ _=>hB⟩
   ·exact ⟨fun e=>by omega,fun e1 e2=>by omega⟩
  ·exact I.buf u y r hy hS
 case sg =>
  intro u y hy hv
  rcases AG hy with ⟨rfl,rfl⟩|⟨hu,hy⟩
  ·rcases hv with hv|hv
   ·rcases AqH hl h0 hv with p|p
    ·rw [(v8_ p hv).1];exact ⟨I.g0,hmono⟩
    ·have:=I.sg u x h (.inl p)
     rw [(NG p).1];omega
   ·have p:=AqI hl h0 hv
    have:=I.sg u x h (.inl p)
    rw [(NG p).1];omega
  ·have:=I.sg u y hy hv
   omega
 case sE =>
  intro r s y z hy hz hv
  have hodd : ∀g:Int,GM g≠0:=fun g=>by unfold GM;omega
  -- who looked at a reader's word was let by it only if it is of that epoch,or a later one
  have hlet:r≠t → ∀y,l[r]? = some y→Rdg y→x.pc=25→H r<x.word→(r:Int)≤x.i→AlX c t x m=false:=fun hrt y hy hv hp hw hi=>by
   unfold AlX
   by_cases e:(r:Int)<x.i
   ·rw [(I.sE r t y x hy h hv).1 hp hw e];rfl
   ·have e2:x.i=(r:Int):=by omega
    obtain ⟨r1,r2,r3,r4⟩:=I.rep r y hy hv
    rw [e2,r4]
    have e3:letsW (GM y.epoch) x.word=false:=by
     unfold letsW
     refine fZ ?_
     rintro (g|g)
     ·exact hodd _ g
     ·unfold GM at g;omega
    rw [e3,fZ (by omega)]
    simp
  rcases AG hy with ⟨e1,e2⟩|⟨h1,hy1⟩
  ·subst e1 e2
   rcases AG hz with ⟨e3,e4⟩|⟨h2,hz1⟩
   ·subst e3 e4
    unfold Rdg at hv
    exact ⟨fun e=>by omega,fun e=>by omega⟩
   ·rcases ZD hl h0 hv with ⟨g1,g2,g3⟩|⟨g1,g2,g3⟩
    ·rw [YI (by unfold Rdg at g1;omega)]
     exact I.sE r s x z h hz1 g1
    ·rw [t2_ g1]
     exact ⟨fun e e2=>by have:=(I.sg s z hz1 (.inl e)).2;omega,fun e=>(I.sg s z hz1 (.inr e)).2⟩
  ·rw [YH h1]
   rcases AG hz with ⟨e3,e4⟩|⟨h2,hz1⟩
   ·subst e3 e4
    refine ⟨fun p25 hw hi=>?_,fun p26=>?_⟩
    ·rcases AqH hl h0 p25 with p|p
     ·rw [(v8_ p p25).2] at hi
      omega
     ·obtain ⟨g1,g2,_,_⟩:=NG (t:=s) (m:=m) (c:=c) p
      obtain ⟨g3,g4⟩:=g2 p25
      rw [g3] at hi
      rw [g1] at hw
      rw [g4]
      exact hlet h1 y hy1 hv p hw (by omega)
    ·have p:=AqI hl h0 p26
     obtain ⟨g1,_,g2,_⟩:=NG (t:=s) (m:=m) (c:=c) p
     obtain ⟨g3,g4⟩:=g2 p26
     rw [g1]
     by_cases hw:x.word≤H r
     ·exact hw
     ·have hrt:=I.tlt hy1
      have:=hlet h1 y hy1 hv p (by omega) (by omega)
      rw [g4] at this;cases this
   ·exact I.sE r s y z hy1 hz1 hv
 case sG =>
  intro r s y z o hy hz hv hp hi ho hb
  rcases AG hy with ⟨e1,e2⟩|⟨h1,hy1⟩
  ·subst e1 e2
   rcases AG hz with ⟨e3,e4⟩|⟨h2,hz1⟩
   ·subst e3 e4
    unfold Vdg at hv
    omega
   ·obtain ⟨g1,g2,g3,g4⟩:=w6_ hl h0 hv
    rw [g3] at hb ⊢
    rcases g1 with g1|⟨_,g1⟩
    ·exact I.sG r s x z o h hz1 g1 hp hi ho hb
    ·exfalso
     have hbs:=(I.olS s z o hz1 ho).2
     have he:o.ref.index=rdI (ld m 0):=by rw [g1, ←hb];exact congrArg HA.index hbs
     exact I.prt s z hz1 _ (t7_ ho) he
  ·rcases AG hz with ⟨e3,e4⟩|⟨h2,hz1⟩
   ·subst e3 e4
    rcases BbC hl h0 hp with p|p|p
    ·rw [((NG (t:=s) (m:=m) (c:=c) p).2.2.2 hp).1] at hi
     omega
    ·rw [(AnW hl p hp).1] at hi
     omega
    ·obtain ⟨g1,g2,g3⟩:=AnX p hp
     rw [g2] at hi
     rw [g3]
     rcases YN hl ho with ho|⟨g,_⟩
     ·by_cases e:(r:Int)<x.i
      ·exact iZ _ (I.sG r s y x o hy1 h hv p e ho hb)
      ·have e2:x.i=(r:Int):=by omega
       rw [e2,I.vhz r y hy1 (by unfold Vdg at hv;omega)]
       exact iR _ (by simp)
     ·omega
   ·exact I.sG r s y z o hy1 hz1 hv hp hi ho hb
 case ep =>
  intro u y hy
  rcases AG hy with ⟨rfl,rfl⟩|⟨hu,hy⟩
  ·have hE:=I.ep u x h
   have hin:inE (stepT c u x m).x→ld (stepT c u x m).m (aEpo c u)=GM (stepT c u x m).x.epoch∧0≤(stepT c u x m).x.epoch∧(stepT c u x m).x.epoch≤ld (stepT c u x m).m 1:=fun hv=>by
    rcases AsH hl h0 hv with p|p|⟨p1,p2,p3,p4,p5,p6,p7,p8,p9⟩
    ·rw [K.epo_set (.inl p),GK hl (by omega) (by omega) (by omega) (by omega) (by omega) (by omega)]
     have:=hE.2 (.inr (.inl p))
     exact ⟨rfl,this.1,by omega⟩
    ·rw [K.epo_set (.inr p),GK hl (by omega) (by omega) (by omega) (by omega) (by omega) (by omega)]
     have:=hE.2 (.inr (.inr p))
     exact ⟨rfl,this.1,by omega⟩
    ·have e:(stepT c u x m).x.epoch=x.epoch:=by
      by_cases g:x.pc=22∨x.pc=23
      ·exact p9 g
      ·exact GK hl (by omega) (by omega) (by omega) (by omega) (by omega) (by omega)
     rw [e,K.epo K.ht (.inr (by omega))]
     have:=hE.2 (.inl p1)
     exact ⟨hE.1 p1,this.1,by omega⟩
   refine ⟨fun hv=>(hin hv).1,fun hv=>?_⟩
   rcases hv with hv|hv|hv
   ·exact (hin hv).2
   ·have p:x.pc=1:=by
     refine GQ (t:=u) (m:=m) hl h0 fun k hk1 hk2 hp=>?_
     rw [hv] at hp
     have hz:=AS hk2
     repeat' (rcases hz with rfl|hz)
     all_goals first|omega|(simp [BW] at hp;done)
    have e:(stepT c u x m).x.epoch=ld m 1:=by rw [AE (k:=1) p];rfl
    rw [e]
    exact ⟨I.g0,hmono⟩
   ·have p:x.pc=30:=by
     refine GQ (t:=u) (m:=m) hl h0 fun k hk1 hk2 hp=>?_
     rw [hv] at hp
     have hz:=AS hk2
     repeat' (rcases hz with rfl|hz)
     all_goals first|omega|(simp [BW] at hp;done)
    have e:(stepT c u x m).x.epoch=ld m 1:=by rw [AE (k:=30) p];rfl
    rw [e]
    exact ⟨I.g0,hmono⟩
  ·have hE:=I.ep u y hy
   refine ⟨fun hv=>?_,fun hv=>?_⟩
   ·rw [K.epo (I.tlt hy) (.inl hu)];exact hE.1 hv
   ·have:=hE.2 hv;omega
 case oc =>
  intro u y hy hv
  rcases AG hy with ⟨rfl,rfl⟩|⟨hu,hy⟩
  ·have hp:=AqC (t:=u) (m:=m) hl h0 (by omega) (by omega)
   have ho:=hl.own_at (by omega) (by omega)
   have hoi:=K.ho ho
   have hpool:=ER (t:=u) (m:=m) hl (by omega) (by omega) (by omega) (by omega) (by omega) (by omega)
   rw [hpool]
   rcases hp with ⟨p,p2⟩|⟨p,p2⟩|⟨p,p2⟩
   ·omega
   ·have ha:=hl.at_
    rw [p] at ha
    have e:(stepT c u x m).m.w=m.w.set (aNode c x.pool.own.index).toNat x.pool.own.tag:=by rw [AE (k:=13) p];rfl
    have hra:=IG f hl K.ht K.ho (.tag p)
    have hi:(stepT c u x m).x.i=x.i:=by rw [AE (k:=13) p];rfl
    refine ⟨?_,fun k _ hk=>?_⟩
    ·rw [HD e hra.1 (by have:=K.wl;omega) hra.1,fR rfl]
    ·have:=hk p2
     rw [hi,ha.2.2.2] at this
     omega
   ·obtain ⟨hi,hn,h15⟩:=w5_ (t:=u) (m:=m) (c:=c) p
    have e:(stepT c u x m).m.w=m.w.set (aNode c x.pool.own.index+1+x.i).toNat (x.nxt.getD x.i.toNat 0):=by rw [AE (k:=14) p];rfl
    have hra:=IG f hl K.ht K.ho (.recd p)
    have hin:=hl.i14 p
    obtain ⟨o1,o2⟩:=I.oc u x h (.inl p)
    have hnod:=CI f hoi.1 hoi.2 (gL 0) (by omega)
    refine ⟨?_,fun k hk hk2=>?_⟩
    ·rw [HD e hra.1 (by have:=K.wl;omega) (by omega),fT (by omega)]
     exact o1
    ·rw [hn]
     by_cases ek:(k:Int)=x.i
     ·rw [HD e hra.1 (by have:=K.wl;omega) (by omega),fR (by omega), ←ek,gE]
     ·have hlt:(k:Int)<x.i:=by
       rcases p2 with p2|p2
       ·have:=hk2 p2
        rw [hi] at this
        omega
       ·have:=h15 p2
        omega
      rw [HD e hra.1 (by have:=K.wl;omega) (by omega),fT (by omega)]
      exact o2 k hk fun _=>hlt
  ·have hyl:=I.loc u y hy
   have ho:=hyl.own_at (by omega) (by omega)
   have hr2:=(I.prg u y hy _ (EV ho)).1
   have hn:(x.pc≠13∧x.pc≠14)∨y.pool.own.index≠x.pool.own.index:=by
    by_cases hp:x.pc=13∨x.pc=14
    ·exact .inr (I.pdj u t y x hu hy h _ (EV ho) _ (EV (hl.own_at (by omega) (by omega))))
    ·exact .inl (by omega)
   obtain ⟨o1,o2⟩:=I.oc u y hy hv
   refine ⟨?_,fun k hk hk2=>?_⟩
   ·have:=K.node hr2.1 hr2.2 (gL 0) (by omega) hn
    rw [nD] at this
    rw [this];exact o1
   ·have:=K.node hr2.1 hr2.2 (q:=1+(k:Int)) (by omega) (by omega) hn
    rw [←mI] at this
    rw [this];exact o2 k hk hk2
 case nx =>
  intro u y hy h1 h2
  rcases AG hy with ⟨rfl,rfl⟩|⟨hu,hy⟩
  ·rcases AqC hl h0 h1 h2 with ⟨p,p2⟩|⟨p,p2⟩|⟨p,p2⟩
   ·rw [NM hl (by omega) (by omega) (by omega) (by omega) (by omega) (by omega)]
    exact (AtM p p2).1
   ·have:=I.nx u x h (by omega) (by omega)
    rw [AE (k:=13) p]
    exact this
   ·have:=I.nx u x h (by omega) (by omega)
    rw [NM hl (by omega) (by omega) (by omega) (by omega) (by omega) (by omega),(w5_ (t:=u) (m:=m) (c:=c) p).2.1]
    have e:(stepT c u x m).x.found=x.found:=by
     rw [AE (k:=14) p]
     show (s14 c u x m).x.found=_
     unfold s14
     dsimp only
     split<;>rfl
    rw [e];exact this
  ·exact I.nx u y hy h1 h2
end
end Go.Proofs.YtccefppppedgkaaGreat
namespace Go.Proofs.YtccefppppedgkaaGreat
section
variable {c:AB} {S:List Nm} {H:Nat→Int} {m:Mm} {l:List AC} {t:Nat} {x:AC}
theorem z1_ (hl:AQ c x) (hp:x.pc=0) (q:AU):plc (begun x q)=plc x:=by
 have ha:=hl.at_
 rw [hp] at ha
 rw [OQ (IU (x:=begun x q) rfl),OQ (IU ha.won)]
 rfl
theorem AaK (I:Inv c S H m l) (h:l[t]? = some x) (hp:x.pc=0) {q:AU} (hq:BR q=true) (hs:x.seq<c.seqs):Inv c S H m (l.set t (begun x q)):=by
 have hl:=I.loc t x h
 have ha:=hl.at_
 rw [hp] at ha
 have hpl:=z1_ hl hp q
 have hl':AQ c (begun x q):=⟨by show (0:Int)≤1;decide,⟨by have:=hl.seq;show 0≤x.seq+1;omega,by show x.seq+1≤_;omega⟩,fun _=>hq,⟨rfl,rfl,rfl⟩⟩
 have b1:(begun x q).pc=1:=rfl
 have b2:DT (begun x q)=false:=IU rfl
 have b3 : ¬Rdg (begun x q):=by unfold Rdg;rw [b1];omega
 have b4 : ¬Vdg (begun x q):=by unfold Vdg;rw [b1];omega
 have b5:DT x=false:=IU ha.won
 have b6 : ¬inE (begun x q):=by unfold inE;rw [b1];omega
 have hpt : ∀(u:Nat) y,(l.set t (begun x q))[u]? = some y → ∃y',l[u]? = some y'∧plc y=plc y'∧y.pool=y'.pool:=fun u y hy=>by
  rcases AG hy with ⟨rfl,rfl⟩|⟨_,hy⟩
  ·exact ⟨x,h,hpl,rfl⟩
  ·exact ⟨y,hy,rfl,rfl⟩
 have hlt:=(iJ.1 h).1
 have hset:(l.set t (begun x q))[t]? = some (begun x q):=by rw [gY,fR rfl,fR hlt]
 have hoth : ∀(u:Nat) y,u≠t→l[u]? = some y→(l.set t (begun x q))[u]? = some y:=fun u y hu hy=>by rw [gY,fT (Ne.symm hu)];exact hy
 constructor
 case wl=>exact I.wl
 case ll=>rw [iS];exact I.ll
 case g0=>exact I.g0
 case loc =>
  intro u y hy
  rcases AG hy with ⟨rfl,rfl⟩|⟨_,hy⟩
  ·exact hl'
  ·exact I.loc u y hy
 case sok=>exact I.sok
 case snd=>exact I.snd
 case root=>exact I.root
 case rmx=>exact I.rmx
 case own =>
  intro u y hy
  obtain ⟨y',e1,e2,e3⟩:=hpt u y hy
  rw [e3];exact I.own u y' e1
 case prg =>
  intro u y hy
  obtain ⟨y',e1,e2,e3⟩:=hpt u y hy
  rw [e2];exact I.prg u y' e1
 case pnd =>
  intro u y hy
  obtain ⟨y',e1,e2,e3⟩:=hpt u y hy
  rw [e2];exact I.pnd u y' e1
 case pdj =>
  intro u v y z huv hy hz
  obtain ⟨y',e1,e2,e3⟩:=hpt u y hy
  obtain ⟨z',f1,f2,f3⟩:=hpt v z hz
  rw [e2,f2];exact I.pdj u v y' z' huv e1 f1
 case prt =>
  intro u y hy
  obtain ⟨y',e1,e2,e3⟩:=hpt u y hy
  rw [e2];exact I.prt u y' e1
 case olS =>
  intro u y o hy ho
  obtain ⟨y',e1,e2,e3⟩:=hpt u y hy
  rw [e3] at ho
  exact I.olS u y' o e1 ho
 case baS =>
  intro u y hy hv
  rcases AG hy with ⟨rfl,rfl⟩|⟨_,hy⟩
  ·rw [b2] at hv
   rcases hv with hv|hv
   ·exact absurd hv b3
   ·cases hv
  ·exact I.baS u y hy hv
 case cont =>
  intro w hw hh
  refine I.cont w hw ?_
  rcases hh with k|⟨u,y,k1,k2,k3⟩|⟨u,y,o,k1,k2,k3⟩
  ·exact .inl k
  ·rcases AG k1 with ⟨rfl,rfl⟩|⟨_,k1⟩
   ·rw [b2] at k2;cases k2
   ·exact .inr (.inl ⟨u,y,k1,k2,k3⟩)
  ·obtain ⟨y',e1,e2,e3⟩:=hpt u y k1
   rw [e3] at k2
   exact .inr (.inr ⟨u,y',o,e1,k2,k3⟩)
 case rep =>
  intro u y hy hv
  rcases AG hy with ⟨rfl,rfl⟩|⟨_,hy⟩
  ·exact absurd hv b3
  ·exact I.rep u y hy hv
 case viv =>
  intro u y hy hv
  rcases AG hy with ⟨rfl,rfl⟩|⟨hu,hy⟩
  ·exact absurd hv b4
  ·rcases I.viv u y hy hv with k|⟨r,z,k1,k2,k3⟩|⟨r,z,o,k1,k2,k3,k4⟩
   ·exact .inl k
   ·by_cases hr:r=t
    ·subst hr;rw [h] at k1;cases k1;rw [b5] at k2;cases k2
    ·exact .inr (.inl ⟨r,z,hoth r z hr k1,k2,k3⟩)
   ·by_cases hr:r=t
    ·subst hr;rw [h] at k1;cases k1
     exact .inr (.inr ⟨r,_,o,hset,k2,k3,k4⟩)
    ·exact .inr (.inr ⟨r,z,o,hoth r z hr k1,k2,k3,k4⟩)
 case vhz =>
  intro u y hy hv
  rcases AG hy with ⟨rfl,rfl⟩|⟨_,hy⟩
  ·rw [b1] at hv;omega
  ·exact I.vhz u y hy hv
 case buf =>
  intro u y r hy hS
  rcases AG hy with ⟨rfl,rfl⟩|⟨_,hy⟩
  ·rw [b1];exact ⟨fun e=>by omega,fun e _=>by omega⟩
  ·exact I.buf u y r hy hS
 case sg =>
  intro u y hy hv
  rcases AG hy with ⟨rfl,rfl⟩|⟨_,hy⟩
  ·rw [b1] at hv;omega
  ·exact I.sg u y hy hv
 case sE =>
  intro r s y z hy hz hv
  rcases AG hy with ⟨e1,e2⟩|⟨_,hy1⟩
  ·rw [e2] at hv;exact absurd hv b3
  ·rcases AG hz with ⟨e3,e4⟩|⟨_,hz1⟩
   ·rw [e4,b1];exact ⟨fun e=>by omega,fun e=>by omega⟩
   ·exact I.sE r s y z hy1 hz1 hv
 case sG =>
  intro r s y z o hy hz hv hp' hi ho hb
  rcases AG hy with ⟨e1,e2⟩|⟨_,hy1⟩
  ·rw [e2] at hv;exact absurd hv b4
  ·rcases AG hz with ⟨e3,e4⟩|⟨_,hz1⟩
   ·rw [e4,b1] at hp';omega
   ·exact I.sG r s y z o hy1 hz1 hv hp' hi ho hb
 case ep =>
  intro u y hy
  rcases AG hy with ⟨rfl,rfl⟩|⟨_,hy⟩
  ·refine ⟨fun hv=>absurd hv b6,fun hv=>?_⟩
   rw [b1] at hv
   rcases hv with hv|hv
   ·exact absurd hv b6
   ·omega
  ·exact I.ep u y hy
 case oc =>
  intro u y hy hv
  rcases AG hy with ⟨rfl,rfl⟩|⟨_,hy⟩
  ·rw [b1] at hv;omega
  ·exact I.oc u y hy hv
 case nx =>
  intro u y hy h1 h2
  rcases AG hy with ⟨rfl,rfl⟩|⟨_,hy⟩
  ·rw [b1] at h1;omega
  ·exact I.nx u y hy h1 h2
end
end Go.Proofs.YtccefppppedgkaaGreat
namespace Go.Proofs.YtccefppppedgkaaGreat
section
variable {c:AB} {S:List Nm} {H:Nat→Int} {m:Mm} {l:List AC} {t:Nat} {x:AC}
theorem s_ (f:Okc c) (I:Inv c S H m l) (h:l[t]? = some x) (p15:x.pc=15) (hr:ld m 0=wdF x.base):Inv c (S++[(wdF x.pool.own,x.nxt)]) H (stepT c t x m).m (l.set t (stepT c t x m).x):=by
 have h0:x.pc≠0:=by omega
 have K:=I.ctx f h h0
 have hl:=K.h
 have hl':=PF (t:=t) (m:=m) f hl h0
 have hf:=f.facts
 have ha:=hl.at_
 rw [p15] at ha
 obtain ⟨⟨hW,ho⟩,hbl,hnl⟩:=ha
 have W0:=K.won p15 hr
 have W1:ld (stepT c t x m).m 1=ld m 1:=by rcases K.glob with e|⟨e,_⟩;exact e;omega
 have hx:=JZ (t:=t) (c:=c) p15 hr
 have hown:=I.own t x h ho
 have hoi:=K.ho ho
 have hN:=(DQ f.ok).2
 have hgood:good x.pool.own.index x.pool.own.tag=true:=HR.2 ⟨hoi.1,by omega,hown.1,by omega⟩
 obtain ⟨n1,n2,n3⟩:=AnH hgood
 have nI:rdI (wdF x.pool.own)=x.pool.own.index:=n2
 have nT:rdT (wdF x.pool.own)=x.pool.own.tag:=n3
 have hpl:=(I.prg t x h _ (EV ho)).2
 have hnew : ∀r,(wdF x.pool.own,r) ∉ S:=fun r hm=>by
  have:=hpl _ hm (by show rdI (wdF x.pool.own)=_;exact nI)
  have e:rdT (wdF x.pool.own)≤x.pool.own.tag-1:=this
  omega
 have hinx:DT x=false:=IU hW.won
 have hplx:plc x=EC x.pool:=OQ hinx
 have hbase:x.base=rdF (ld m 0):=by rw [hr];exact (I.baS t x h (.inl eO)).2
 have hbI:x.base.index=rdI (ld m 0):=congrArg HA.index hbase
 have hbT:x.base.tag=rdT (ld m 0):=congrArg HA.tag hbase
 obtain ⟨rr,hroot⟩:=I.root
 have hinf:DT (stepT c t x m).x=true:=by rw [hx];rfl
 have hpc:(stepT c t x m).x.pc=20:=by rw [hx]
 have hxb:(stepT c t x m).x.base=x.base:=by rw [hx]
 have hxo:(stepT c t x m).x.pool.old=x.pool.old:=by rw [hx];rfl
 have hplc:plc (stepT c t x m).x=EC (leaveP x.pool)++[(x.base.index,x.base.tag)]:=by
  unfold plc
  rw [hinf,hx]
  rfl
 have hlv : ∀p∈EC (leaveP x.pool),p∈plc x:=fun p hp=>by rw [hplx];exact (SV x.pool).1 p hp
 have hne : ∀p∈EC (leaveP x.pool),p.1≠x.pool.own.index:=AaL ho (by rw [←hplx];exact I.pnd t x h)
 have hpm : ∀p∈plc (stepT c t x m).x,p∈EC (leaveP x.pool)∨p=(x.base.index,x.base.tag):=fun p hp=>by
  rw [hplc] at hp
  rcases gQ.1 hp with hp|hp
  ·exact .inl hp
  ·exact .inr (by simpa using hp)
 have hSm : ∀w:Nm,w∈S++[(wdF x.pool.own,x.nxt)]→w∈S∨w=(wdF x.pool.own,x.nxt):=fun w hw=>by
  rcases gQ.1 hw with hw|hw
  ·exact .inl hw
  ·exact .inr (by simpa using hw)
 have hlt:=(iJ.1 h).1
 have hset:(l.set t (stepT c t x m).x)[t]? = some (stepT c t x m).x:=by rw [gY,fR rfl,fR hlt]
 have hoth : ∀(u:Nat) y,u≠t→l[u]? = some y→(l.set t (stepT c t x m).x)[u]? = some y:=fun u y hu hy=>by rw [gY,fT (Ne.symm hu)];exact hy
 have hrp:=I.prt t x h _ (EV ho)
 constructor
 case wl=>exact K.wl'
 case ll=>rw [iS];exact I.ll
 case g0=>rw [W1];exact I.g0
 case loc =>
  intro u y hy
  rcases AG hy with ⟨rfl,rfl⟩|⟨_,hy⟩
  ·exact hl'
  ·exact I.loc u y hy
 case sok =>
  intro w hw
  rcases hSm w hw with hw|rfl
  ·exact I.sok w hw
  ·refine ⟨n1,QI _ _,?_,?_,hnl⟩
   ·show 0≤rdI (wdF x.pool.own)∧_;rw [nI];exact hoi
   ·show rdT (wdF x.pool.own)≤_;rw [nT];exact hown.2
 case snd =>
  rw [iP,lY]
  refine ⟨I.snd,by simp,fun a hA b hB=>?_⟩
  obtain ⟨w,hw,rfl⟩:=iW.1 hA
  simp at hB
  subst hB
  intro e
  exact hnew w.2 (by rw [←e];exact hw)
 case root=>rw [W0];exact ⟨x.nxt,by simp⟩
 case rmx =>
  intro w hw e
  rw [W0,nI] at e
  rw [W0,nT]
  rcases hSm w hw with hw|rfl
  ·have:=hpl w hw e
   dsimp only at this
   omega
  ·exact Int.le_of_eq nT
 case own =>
  intro u y hy hy0
  rcases AG hy with ⟨rfl,rfl⟩|⟨_,hy⟩
  ·rw [hx] at hy0;exact absurd rfl hy0
  ·exact I.own u y hy hy0
 case prg =>
  intro u y hy p hp
  rcases AG hy with ⟨rfl,rfl⟩|⟨hu,hy⟩
  ·rcases hpm p hp with hp|rfl
   ·obtain ⟨g1,g2⟩:=I.prg u x h p (hlv p hp)
    refine ⟨g1,fun w hw e=>?_⟩
    rcases hSm w hw with hw|rfl
    ·exact g2 w hw e
    ·exact absurd (e.symm.trans nI) (hne p hp)
   ·have g:=I.sok _ hroot
    refine ⟨by dsimp only;rw [hbI];exact g.2.2.1,fun w hw e=>?_⟩
    dsimp only at e ⊢
    rw [hbI] at e
    rw [hbT]
    rcases hSm w hw with hw|rfl
    ·exact I.rmx w hw e
    ·exact absurd (nI.symm.trans e) hrp
  ·obtain ⟨g1,g2⟩:=I.prg u y hy p hp
   refine ⟨g1,fun w hw e=>?_⟩
   rcases hSm w hw with hw|rfl
   ·exact g2 w hw e
   ·exact absurd (e.symm.trans nI) (I.pdj u t y x hu hy h p hp _ (EV ho))
 case pnd =>
  intro u y hy
  rcases AG hy with ⟨rfl,rfl⟩|⟨_,hy⟩
  ·rw [hplc,iP,lY]
   refine ⟨(SV x.pool).2 (by rw [←hplx];exact I.pnd u x h),by simp,fun a hA b hB=>?_⟩
   obtain ⟨p,hp,rfl⟩:=iW.1 hA
   simp at hB
   subst hB
   rw [hbI]
   exact I.prt u x h p (hlv p hp)
  ·exact I.pnd u y hy
 case pdj =>
  have key : ∀(u:Nat) y,u≠t→l[u]? = some y → ∀p∈plc (stepT c t x m).x,∀q∈plc y,p.1≠q.1:=fun u y hu hy p hp q hq=>by
   rcases hpm p hp with hp|rfl
   ·exact I.pdj t u x y (Ne.symm hu) h hy p (hlv p hp) q hq
   ·dsimp only
    rw [hbI]
    exact fun e=>I.prt u y hy q hq e.symm
  intro u v y z huv hy hz p hp q hq
  rcases AG hy with ⟨e1,e2⟩|⟨h1,hy1⟩
  ·rcases AG hz with ⟨e3,e4⟩|⟨h2,hz1⟩
   ·exact absurd (e1.trans e3.symm) huv
   ·rw [e2] at hp;exact key v z h2 hz1 p hp q hq
  ·rcases AG hz with ⟨e3,e4⟩|⟨h2,hz1⟩
   ·rw [e4] at hq;exact fun e=>key u y h1 hy1 q hq p hp e.symm
   ·exact I.pdj u v y z huv hy1 hz1 p hp q hq
 case prt =>
  intro u y hy p hp
  rw [W0,nI]
  rcases AG hy with ⟨rfl,rfl⟩|⟨hu,hy⟩
  ·rcases hpm p hp with hp|rfl
   ·exact hne p hp
   ·dsimp only;rw [hbI];exact fun e=>hrp e.symm
  ·exact I.pdj u t y x hu hy h p hp _ (EV ho)
 case olS =>
  intro u y o hy hO
  rcases AG hy with ⟨rfl,rfl⟩|⟨_,hy⟩
  ·rw [hxo] at hO
   obtain ⟨⟨r,g1⟩,g2⟩:=I.olS u x o h hO
   exact ⟨⟨r,iZ _ g1⟩,g2⟩
  ·obtain ⟨⟨r,g1⟩,g2⟩:=I.olS u y o hy hO
   exact ⟨⟨r,iZ _ g1⟩,g2⟩
 case baS =>
  intro u y hy hv
  rcases AG hy with ⟨rfl,rfl⟩|⟨_,hy⟩
  ·rw [hxb]
   obtain ⟨⟨r,g1⟩,g2⟩:=I.baS u x h (.inl eO)
   exact ⟨⟨r,iZ _ g1⟩,g2⟩
  ·obtain ⟨⟨r,g1⟩,g2⟩:=I.baS u y hy hv
   exact ⟨⟨r,iZ _ g1⟩,g2⟩
 case cont =>
  intro w hw hh
  rcases hSm w hw with hw|rfl
  ·have hh':XF m l w.1:=by
    rcases hh with k|⟨u,y,k1,k2,k3⟩|⟨u,y,o,k1,k2,k3⟩
    ·exact absurd (show (wdF x.pool.own,w.2)∈S by rw [←W0,k];exact hw) (hnew w.2)
    ·rcases AG k1 with ⟨rfl,rfl⟩|⟨_,k1⟩
     ·rw [hxb] at k3;exact .inl (hr.trans k3)
     ·exact .inr (.inl ⟨u,y,k1,k2,k3⟩)
    ·rcases AG k1 with ⟨rfl,rfl⟩|⟨_,k1⟩
     ·rw [hxo] at k2;exact .inr (.inr ⟨u,x,o,h,k2,k3⟩)
     ·exact .inr (.inr ⟨u,y,o,k1,k2,k3⟩)
   exact OC I f h h0 hw hh' (I.cont w hw hh')
  ·obtain ⟨o1,o2⟩:=I.oc t x h (.inr p15)
   have hnp:(x.pc≠13∧x.pc≠14)∨x.pool.own.index≠x.pool.own.index:=.inl (by omega)
   unfold AcN
   dsimp only
   rw [nI,nT]
   refine ⟨?_,fun q hq=>?_⟩
   ·have:=K.node hoi.1 hoi.2 (gL 0) (by omega) hnp
    rw [nD] at this
    rw [this];exact o1
   ·have:=K.node hoi.1 hoi.2 (q:=1+(q:Int)) (by omega) (by omega) hnp
    rw [←mI] at this
    rw [this];exact o2 q (by omega) (fun e=>by omega)
 case rep =>
  intro u y hy hv
  rcases AG hy with ⟨rfl,rfl⟩|⟨hu,hy⟩
  ·unfold Rdg at hv;omega
  ·rw [W1,K.epo (I.tlt hy) (.inl hu)]
   exact I.rep u y hy hv
 case viv =>
  intro u y hy hv
  rcases AG hy with ⟨rfl,rfl⟩|⟨hu,hy⟩
  ·unfold Vdg at hv;omega
  ·rcases I.viv u y hy hv with k|⟨r,z,k1,k2,k3⟩|⟨r,z,o,k1,k2,k3,k4⟩
   ·exact .inr (.inl ⟨t,_,hset,hinf,by rw [hxb, ←hr];exact k⟩)
   ·by_cases hrt:r=t
    ·subst hrt;rw [h] at k1;cases k1;rw [hinx] at k2;cases k2
    ·exact .inr (.inl ⟨r,z,hoth r z hrt k1,k2,k3⟩)
   ·by_cases hrt:r=t
    ·subst hrt;rw [h] at k1;cases k1
     exact .inr (.inr ⟨r,_,o,hset,by rw [hxo];exact k2,k3,k4⟩)
    ·exact .inr (.inr ⟨r,z,o,hoth r z hrt k1,k2,k3,k4⟩)
 case vhz =>
  intro u y hy hv
  rcases AG hy with ⟨rfl,rfl⟩|⟨hu,hy⟩
  ·omega
  ·rw [K.haz (I.tlt hy) (.inl hu)];exact I.vhz u y hy hv
 case buf =>
  intro u y r hy hS
  rcases AG hy with ⟨rfl,rfl⟩|⟨hu,hy⟩
  ·exact ⟨fun e=>by omega,fun e e2=>by omega⟩
  ·rcases hSm _ hS with hS|e
   ·exact I.buf u y r hy hS
   ·have e1:wdF y.base=wdF x.pool.own:=congrArg Prod.fst e
    have no : ¬Rdg y:=fun hv=>by
     obtain ⟨⟨r',g⟩,_⟩:=I.baS u y hy (.inl hv)
     rw [e1] at g
     exact hnew r' g
    unfold Rdg at no
    exact ⟨fun e=>by omega,fun e e2=>by omega⟩
 case sg =>
  intro u y hy hv
  rcases AG hy with ⟨rfl,rfl⟩|⟨_,hy⟩
  ·omega
  ·rw [W1];exact I.sg u y hy hv
 case sE =>
  intro r s y z hy hz hv
  rcases AG hy with ⟨e1,e2⟩|⟨_,hy1⟩
  ·rw [e2] at hv;unfold Rdg at hv;omega
  ·rcases AG hz with ⟨e3,e4⟩|⟨_,hz1⟩
   ·rw [e4];exact ⟨fun e=>by omega,fun e=>by omega⟩
   ·exact I.sE r s y z hy1 hz1 hv
 case sG =>
  intro r s y z o hy hz hv hp hi hO hb
  rcases AG hy with ⟨e1,e2⟩|⟨_,hy1⟩
  ·rw [e2] at hv;unfold Vdg at hv;omega
  ·rcases AG hz with ⟨e3,e4⟩|⟨_,hz1⟩
   ·rw [e4] at hp;omega
   ·exact I.sG r s y z o hy1 hz1 hv hp hi hO hb
 case ep =>
  intro u y hy
  rcases AG hy with ⟨rfl,rfl⟩|⟨hu,hy⟩
  ·have hE:=I.ep u x h
   have hi:inE x:=.inl ⟨by omega,by omega,hW.wai⟩
   have he:(stepT c u x m).x.epoch=x.epoch:=by rw [hx]
   rw [he,W1,K.epo K.ht (.inr (by omega))]
   exact ⟨fun _=>hE.1 hi,fun _=>hE.2 (.inl hi)⟩
  ·rw [W1,K.epo (I.tlt hy) (.inl hu)];exact I.ep u y hy
 case oc =>
  intro u y hy hv
  rcases AG hy with ⟨rfl,rfl⟩|⟨hu,hy⟩
  ·omega
  ·have hyl:=I.loc u y hy
   have hyo:=hyl.own_at (by omega) (by omega)
   have hr2:=(I.prg u y hy _ (EV hyo)).1
   have hn:(x.pc≠13∧x.pc≠14)∨y.pool.own.index≠x.pool.own.index:=.inl (by omega)
   obtain ⟨o1,o2⟩:=I.oc u y hy hv
   refine ⟨?_,fun k hk hk2=>?_⟩
   ·have:=K.node hr2.1 hr2.2 (gL 0) (by omega) hn
    rw [nD] at this
    rw [this];exact o1
   ·have:=K.node hr2.1 hr2.2 (q:=1+(k:Int)) (by omega) (by omega) hn
    rw [←mI] at this
    rw [this];exact o2 k hk hk2
 case nx =>
  intro u y hy h1 h2
  rcases AG hy with ⟨rfl,rfl⟩|⟨hu,hy⟩
  ·omega
  ·exact I.nx u y hy h1 h2
end
end Go.Proofs.YtccefppppedgkaaGreat
namespace Go.Proofs.YtccefppppedgkaaGreat
theorem AgS {a:Int} {q:Nat} {s:CR} (h:s∈newL a q) : ∃i:Nat,i<q∧s=UV a i:=by
 unfold newL at h
 obtain ⟨i,hi,rfl⟩:=iW.1 h
 exact ⟨i,kN.1 hi,rfl⟩
theorem Okc.kap {c:AB} (f:Okc c):chkL c=0:=by
 unfold chkL
 rw [fR f.ok,fT (by have:=f.big;omega)]
theorem Okc.nod {c:AB} (f:Okc c):nodesL c=1+c.threads*c.nodes∧1≤c.nodes∧c.nodes≤64:=by
 refine ⟨by unfold nodesL;rw [fR f.ok],?_⟩
 have h0:=f.ok
 unfold AZ at h0
 simp only [gG,BX] at h0
 omega
theorem TM {c:AB} (f:Okc c) {t:Nat} (ht:(t:Int)<c.threads):poolL c t=newL (1+t*c.nodes) c.nodes.toNat:=by
 have hf:=f.facts
 obtain ⟨-,n1,n2⟩:=f.nod
 have hb:0≤(t:Int)*c.nodes:=jZ (by omega) (by omega)
 have hb2:(t:Int)*c.nodes≤64*64:=nB (by omega) n2 (by omega) (by omega)
 unfold poolL
 rw [fR ⟨f.kap,by omega,ht⟩,DX (x:=(t:Int)*c.nodes) (by omega),DX (by omega)]
 congr 1
 omega
theorem AoC {c:AB} (f:Okc c) {t:Nat} (ht:(t:Int)<c.threads) {s:CR} (hs:s∈poolL c t) : ∃i:Nat,(i:Int)<c.nodes∧s=⟨1+t*c.nodes+i,0⟩:=by
 have hf:=f.facts
 obtain ⟨-,n1,n2⟩:=f.nod
 rw [TM f ht] at hs
 obtain ⟨i,hi,rfl⟩:=AgS hs
 have hb:0≤(t:Int)*c.nodes:=jZ (by omega) (by omega)
 have hb2:(t:Int)*c.nodes≤64*64:=nB (by omega) n2 (by omega) (by omega)
 refine ⟨i,by omega,?_⟩
 unfold UV
 rw [show IntKind.i64.wrap (1+(t:Int)*c.nodes+(i:Int))=1+(t:Int)*c.nodes+i from DX (by omega)]
theorem o4_ {c:AB} (f:Okc c):((startO c).length:Int)=sizeC c:=by
 have h:=WQ c
 by_cases k:c.kind=3
 ·have:=h.h f.ok k
  unfold HF at this
  simp only [gG,gM] at this
  exact this.1.2
 ·have:=h.x f.ok k
  unfold FV at this
  simp only [gG,gM] at this
  exact this.1.2
theorem KC {c:AB} (f:Okc c):((DC c).m.w.length:Int)=totL c∧ld (DC c).m 0=65537∧ld (DC c).m 1=0∧ld (DC c).m (aNode c 0)=1 ∧ ∀k:Nat,k<(startO c).length→ld (DC c).m (aNode c 0+1+k)=(startO c).getD k 0:=by
  obtain ⟨N,A,hS⟩:=AqG f.kap
  have hA:aNode c 0=(A:Int):=by
    have:=hS.at0
    have hf:=f.facts
    unfold atL at this
    unfold aNode
    omega
  have l0:(List.replicate N (0:Int)).length=N:=iV
  have r1:=hS.lo
  have r2:=hS.room
  have l1:(pokeL (List.replicate N (0:Int)) 0 [65537]).length=N:=by rw [HX bA,l0]
  have l2:(pokeL (pokeL (List.replicate N (0:Int)) 0 [65537]) A [1]).length=N:=by rw [HX bA,l1]
  have l3:(setupL c).length=N:=by unfold setupL;rw [hS.nat,hS.at0,HX (by rw [l2];omega),l2]
  have g : ∀i:Nat,(setupL c)[i]? = if i<A+1 then (if i<A then (if i<1 then some 65537 else if i<N then some 0 else none) else some 1) else if i<A+1+(startO c).length then (startO c)[i-(A+1)]? else if i<N then some 0 else none:=fun i=>by
    unfold setupL
    rw [hS.nat,hS.at0,OR (by rw [l2];omega),OR (by rw [l1];simp;omega),OR (by rw [l0];simp;omega)]
    simp only [gT,mY]
    repeat' split
    all_goals first
      |rfl
      |(exfalso;omega)
      | (have e:i=0:=by omega
         subst e;rfl)
      | (have e:i-A=0:=by omega
         rw [e];rfl)
  have hw:(DC c).m.w=setupL c:=rfl
  refine ⟨by rw [hw,l3];exact hS.tot.symm,?_,?_,?_,fun k hk=>?_⟩
  · unfold ld;rw [hw,fQ,g,fR (by simp),fR bA,fR (by simp)];rfl
  · unfold ld;rw [hw,fQ,g,fR bA,fR bA,fT (by simp),fR bA];rfl
  · unfold ld;rw [hw,hA,gE,fQ,g,fR (by omega),fT (by omega)];rfl
  · unfold ld
    rw [hw,hA,show ((A:Int)+1+(k:Int)).toNat=A+1+k by omega,fQ,g,fT (by omega),fR (by omega),jP, ←fQ]
theorem FJ {c:AB} {t:Nat} {x:AC} (h:(DC c).tasks[t]? = some x):(t:Int)<c.threads∧x={ AK with pool:=⟨⟨0,0⟩,poolL c t,[],0⟩}:=by
 have h':((List.range (thrN c)).map (fun (t:Nat)=>({ AK with pool:=⟨⟨0,0⟩,poolL c t,[],0⟩}:AC)))[t]? = some x:=h
 rw [gP] at h'
 cases hr:(List.range (thrN c))[t]? with
 |none=>rw [hr] at h';cases h'
 |some a =>
  rw [hr] at h'
  have hlt:=(iJ.1 hr).1
  rw [lE] at hlt
  have:=jW hlt
  rw [this] at hr
  cases hr
  cases h'
  exact ⟨by unfold thrN at hlt;omega,rfl⟩
theorem t_ (c:AB) (t:Nat):plc ({ AK with pool:=⟨⟨0,0⟩,poolL c t,[],0⟩}:AC)=(poolL c t).map fun s=>(s.index,s.tag):=by
 rw [OQ (IU rfl)]
 unfold EC
 simp
theorem AlS {c:AB} (f:Okc c):Inv c [(65537,startO c)] (fun _=>0) (DC c).m (DC c).tasks:=by
 have hf:=f.facts
 obtain ⟨nd,n1,n2⟩:=f.nod
 obtain ⟨w1,w2,w3,w4,w5⟩:=KC f
 have e1:rdI 65537=0:=by decide
 have e2:rdT 65537=1:=by decide
 have hm : ∀w:Nm,w∈[((65537:Int),startO c)]→w=(65537,startO c):=fun w hw=>by simpa using hw
 have hp : ∀(t:Nat) x,(DC c).tasks[t]? = some x → ∀p∈plc x,∃i:Nat,(i:Int)<c.nodes∧p=(1+t*c.nodes+i,0)∧(t:Int)<c.threads:=fun t x h p hp=>by
  obtain ⟨h1,rfl⟩:=FJ h
  rw [t_] at hp
  obtain ⟨s,hs,rfl⟩:=iW.1 hp
  obtain ⟨i,hi,rfl⟩:=AoC f h1 hs
  exact ⟨i,hi,rfl,h1⟩
 have hpc : ∀(t:Nat) x,(DC c).tasks[t]? = some x→x.pc=0∧DT x=false∧x.pool.old=[]∧x.pool.own.tag=0:=fun t x h=>by
  obtain ⟨h1,rfl⟩:=FJ h
  exact ⟨rfl,rfl,rfl,rfl⟩
 constructor
 case wl=>exact w1
 case ll =>
  show ((((List.range (thrN c)).map _).length:Nat):Int)=_
  rw [fN,lE]
  unfold thrN
  omega
 case g0=>rw [w3];decide
 case loc =>
  intro t x h
  obtain ⟨h1,rfl⟩:=FJ h
  exact ⟨by show (0:Int)≤0;decide,⟨by show (0:Int)≤0;decide,by show (0:Int)≤_;omega⟩,fun e=>absurd rfl e,⟨rfl,rfl,rfl⟩⟩
 case sok =>
  intro w hw
  rw [hm w hw]
  refine ⟨by dsimp only;decide,by dsimp only;decide,?_,?_,o4_ f⟩
  ·dsimp only;rw [e1];have:=f.tot.2;omega
  ·dsimp only;rw [e2];omega
 case snd=>simp
 case root=>rw [w2];exact ⟨startO c,by simp⟩
 case rmx=>intro w hw _;rw [hm w hw,w2];exact gL _
 case own=>intro t x h h0;exact absurd (hpc t x h).2.2.2 h0
 case prg =>
  intro t x h p hp'
  obtain ⟨i,hi,rfl,ht⟩:=hp t x h p hp'
  have a1:0≤(t:Int)*c.nodes:=jZ (by omega) (by omega)
  have a2:((t:Int)+1)*c.nodes≤c.threads*c.nodes:=iD (by omega) (by omega)
  rw [mP] at a2
  refine ⟨by dsimp only;omega,fun w hw e=>?_⟩
  rw [hm w hw] at e
  dsimp only at e
  omega
 case pnd =>
  intro t x h
  obtain ⟨h1,rfl⟩:=FJ h
  rw [t_,TM f h1]
  have a1:0≤(t:Int)*c.nodes:=jZ (by omega) (by omega)
  have a2:(t:Int)*c.nodes≤64*64:=nB (by omega) n2 (by omega) (by omega)
  unfold newL
  rw [lW,lW]
  unfold List.Nodup
  rw [List.pairwise_map]
  refine List.Pairwise.imp_of_mem (R:=fun a b:Nat=>a≠b) (fun {a b} ha hb hab e=>?_) List.nodup_range
  have ha:=kN.1 ha
  have hb:=kN.1 hb
  have e':IntKind.i64.wrap (1+(t:Int)*c.nodes+(a:Int))=IntKind.i64.wrap (1+(t:Int)*c.nodes+(b:Int)):=e
  rw [show IntKind.i64.wrap (1+(t:Int)*c.nodes+(a:Int))=1+(t:Int)*c.nodes+a from DX (by omega),show IntKind.i64.wrap (1+(t:Int)*c.nodes+(b:Int))=1+(t:Int)*c.nodes+b from DX (by omega)] at e'
  omega
 case pdj =>
  intro t u x y htu h k p hp1 q hq1
  obtain ⟨i,hi,rfl,ht⟩:=hp t x h p hp1
  obtain ⟨j,hj,rfl,hu⟩:=hp u y k q hq1
  dsimp only
  rcases Nat.lt_or_gt_of_ne htu with g|g
  ·have:=iD (show (t:Int)+1≤u by omega) (show 0≤c.nodes by omega)
   rw [mP] at this
   omega
  ·have:=iD (show (u:Int)+1≤t by omega) (show 0≤c.nodes by omega)
   rw [mP] at this
   omega
 case prt =>
  intro t x h p hp1
  obtain ⟨i,hi,rfl,ht⟩:=hp t x h p hp1
  have a1:0≤(t:Int)*c.nodes:=jZ (by omega) (by omega)
  rw [w2,e1]
  dsimp only
  omega
 case olS=>intro t x o h ho;rw [(hpc t x h).2.2.1] at ho;cases ho
 case baS =>
  intro t x h hv
  obtain ⟨p0,p1,_⟩:=hpc t x h
  rw [p1] at hv
  rcases hv with hv|hv
  ·unfold Rdg at hv;omega
  ·cases hv
 case cont =>
  intro w hw _
  rw [hm w hw]
  unfold AcN
  dsimp only
  rw [e1,e2]
  exact ⟨w4,w5⟩
 case rep=>intro t x h hv;have:=(hpc t x h).1;unfold Rdg at hv;omega
 case viv=>intro t x h hv;have:=(hpc t x h).1;unfold Vdg at hv;omega
 case vhz=>intro t x h hv;have:=(hpc t x h).1;omega
 case buf=>intro t x r h _;have:=(hpc t x h).1;exact ⟨fun e=>by omega,fun e _=>by omega⟩
 case sg=>intro t x h hv;have:=(hpc t x h).1;omega
 case sE=>intro r s x y h _ hv;have:=(hpc r x h).1;unfold Rdg at hv;omega
 case sG=>intro r s x y o h _ hv;have:=(hpc r x h).1;unfold Vdg at hv;omega
 case ep =>
  intro t x h
  have:=(hpc t x h).1
  refine ⟨fun hv=>?_,fun hv=>?_⟩
  ·unfold inE at hv;omega
  ·unfold inE at hv;omega
 case oc=>intro t x h hv;have:=(hpc t x h).1;omega
 case nx=>intro t x h h1 _;have:=(hpc t x h).1;omega
end Go.Proofs.YtccefppppedgkaaGreat
namespace Go.Proofs.YtccefppppedgkaaGreat
def IB (c:AB) (u:List CP) (k:Nat):List Int:=(u.take k).foldl (fun r tn=>allO c r tn.ops) (startO c)
theorem h_ {c:AB} {u:List CP} {v:CP} {k:Nat} (h:k≤u.length):IB c (u++[v]) k=IB c u k:=by
 unfold IB;rw [List.take_append_of_le_length h]
theorem AbN {c:AB} {u:List CP} {v:CP}:IB c (u++[v]) (u.length+1)=allO c (IB c u u.length) v.ops:=by
 unfold IB
 rw [jE (by simp),jQ,jY];rfl
structure Chn (c:AB) (S:List Nm) (m:Mm) (u:List CP):Prop where
 rcs:S.map (·.2)=(List.range (u.length+1)).map (IB c u)
 last:(ld m 0,IB c u u.length)∈S
theorem h9_ {c:AB} {t:Nat} {x:AC} {m:Mm} (hl:AQ c x) (hr : ¬(x.pc=15∧ld m 0=wdF x.base)):(stepT c t x m).won=false:=by
 obtain ⟨k,hk1,hk2, -⟩:=BA hl
 rw [AE hk1]
 have hz:=AS hk2
 repeat' (rcases hz with rfl|hz)
 all_goals first
  |rfl
  |(show (s15 c t x m).won=_;unfold s15;rw [fT (fun e=>hr ⟨hk1,e⟩)])
  |(simp only [AN,s22,s23,s28,s29,ownedT];(repeat' split)<;>rfl)
theorem u1_ {c:AB} {t:Nat} {x:AC} {m:Mm} (p:x.pc=15) (hr:ld m 0=wdF x.base):(stepT c t x m).won=true∧(stepT c t x m).ops=x.found:=by
 rw [AE (k:=15) p]
 show (s15 c t x m).won=_∧(s15 c t x m).ops=_
 unfold s15
 rw [fR hr]
 exact ⟨rfl,rfl⟩
end Go.Proofs.YtccefppppedgkaaGreat
namespace Go.Proofs.YtccefppppedgkaaGreat
section
variable {c:AB} {S:List Nm} {H:Nat→Int} {m:Mm} {l:List AC} {t:Nat} {x:AC}
theorem AkJ (I:Inv c S H m l) (h:l[t]? = some x) (p:x.pc=7) : ∃r,(wdF x.base,r)∈S∧x.buf++[ld m (aNode c x.base.index+1+x.i)]=r.take (x.buf.length+1)∧(r.length:Int)=sizeC c:=by
 have hl:=I.loc t x h
 have hv:Vdg x:=by unfold Vdg;omega
 obtain ⟨⟨r,hS⟩,hbs⟩:=I.baS t x h (.inl (Rdg.of_v hv))
 have hB:=(I.buf t x r h hS).1 p
 have ha:=hl.at_
 rw [p] at ha
 obtain ⟨-,i0,i1,i2⟩:=ha
 have hz:(r.length:Int)=sizeC c:=(I.sok _ hS).2.2.2.2
 have hC:=I.cont _ hS (I.viv t x h hv).held
 have hi:rdI (wdF x.base)=x.base.index:=(congrArg HA.index hbs).symm
 have hlt:x.buf.length<r.length:=by omega
 have hw:=hC.2 x.buf.length hlt
 rw [hi,i2] at hw
 refine ⟨r,hS,?_,hz⟩
 rw [hw,iB, ←hB,ZgE hlt,fQ,ZgE hlt]
 rfl
def Whole (c:AB) (S:List Nm) (l:List AC):Prop:=∀(t:Nat) x,l[t]? = some x→(x.buf.length:Int)=sizeC c→x.buf∈S.map (·.2)
theorem p2_ (I:Inv c S H m l) (h:l[t]? = some x) (h0:x.pc≠0) (hz:1≤sizeC c) (W:Whole c S l):Whole c S (l.set t (stepT c t x m).x):=by
 intro u y hy hlen
 rcases AG hy with ⟨rfl,rfl⟩|⟨_,hy⟩
 ·rcases AkI (t:=u) (m:=m) (I.loc u x h) h0 with e|e|⟨p,e⟩
  ·rw [e] at hlen ⊢;exact W u x h hlen
  ·rw [e] at hlen;simp at hlen;omega
  ·obtain ⟨r,g1,g2,g3⟩:=AkJ I h p
   rw [e,g2] at hlen ⊢
   rw [jE (by rw [fY] at hlen;omega)]
   exact iW.2 ⟨_,g1,rfl⟩
 ·exact W u y hy hlen
end
end Go.Proofs.YtccefppppedgkaaGreat
namespace Go.Proofs.YtccefppppedgkaaGreat
def NR (tags:Int) (st:Option (Int × List Int)) (a:KQ):Option (Int × List Int) :=
 match st with
 |none=>none
 |some (last,seen) =>
  if a.addr≠0∨a.kind≠3∨a.ok=false then (if a.addr=0∧a.kind≠1∧a.kind≠3 then none else some (last,seen))
  else if ND a.now=true∧a.want=last∧rdT a.now≤tags∧a.now ∉ seen then some (a.now,seen++[a.now]) else none
def QH (tags:Int) (log:List KQ):Option (Int × List Int):=log.foldl (NR tags) (some (65537,[65537]))
theorem WT (tags:Int) (log:List KQ) (e:KQ):QH tags (log++[e])=NR tags (QH tags log) e:=by unfold QH;rw [jY];rfl
section
variable {c:AB} {S:List Nm} {H:Nat→Int} {m:Mm} {l:List AC} {t:Nat} {x:AC}
theorem ArH (k:Ctx c t x m) {a:Int} (w:AA c t x a) (h15:x.pc≠15):a≠0:=by
 have hf:=k.f.facts
 have ht:=k.ht
 have hown:3≤x.pc→x.pc≤19→3+c.threads*9≤aNode c x.pool.own.index:=fun a b=>by
  have:=k.ho (k.h.own_at a b)
  have:=CI k.f this.1 this.2 (gL 0) (by omega)
  omega
 have h14:=fun hp=>(k.h.i14 hp)
 have h12:=fun hp=>(k.h.i12 hp)
 have h17:=fun hp=>(k.h.j17 hp)
 cases w with
 |root hp=>exact absurd hp h15
 |glob hp=>omega
 |phase hp=>omega
 |epo hp=>unfold aEpo;omega
 |haz hp=>unfold aHaz;omega
 |arg hp=>have:=h17 hp;unfold EI;omega
 |seq hp=>unfold aSeq;omega
 |mail hp=>have:=h12 hp;unfold aMail;omega
 |mine hp=>unfold aMail;omega
 |tag hp=>have:=hown (by omega) (by omega);omega
 |recd hp=>have:=hown (by omega) (by omega);have:=h14 hp;omega
theorem AbU (f:Okc c) (I:Inv c S H m l) (h:l[t]? = some x) (h0:x.pc≠0) (hr : ¬(x.pc=15∧ld m 0=wdF x.base)) (T:QH c.tags m.log=some (ld m 0,S.map (·.1))):QH c.tags (stepT c t x m).m.log=some (ld (stepT c t x m).m 0,S.map (·.1)):=by
 have K:=I.ctx f h h0
 obtain ⟨e,e1,e2,e3,e4⟩:=EE (t:=t) (m:=m) K.h h0
 rw [e1,WT,T,K.root hr]
 unfold NR
 dsimp only
 by_cases p:x.pc=15
 ·obtain ⟨k1,k2,k3,k4,k5⟩:=e4 p
  have ho:e.ok=false:=by
   cases ho:e.ok
   ·rfl
   ·exact absurd ⟨p,k4.1 ho⟩ hr
  rw [fR (.inr (.inr ho)),fT (by omega)]
 ·rcases e3 with e3|⟨e3,e5⟩
  ·rw [fR (.inr (.inl (by omega))),fT (by omega)]
  ·have:=ArH K e3 p
   rw [fR (.inl this),fT (by omega)]
theorem AiT (f:Okc c) (I:Inv c S H m l) (h:l[t]? = some x) (p:x.pc=15) (hr:ld m 0=wdF x.base) (T:QH c.tags m.log=some (ld m 0,S.map (·.1))):QH c.tags (stepT c t x m).m.log=some (ld (stepT c t x m).m 0,(S++[(wdF x.pool.own,x.nxt)]).map (·.1)):=by
 have h0:x.pc≠0:=by omega
 have K:=I.ctx f h h0
 have J:=s_ f I h p hr
 obtain ⟨e,e1,e2,e3,e4⟩:=EE (t:=t) (m:=m) K.h h0
 obtain ⟨k1,k2,k3,k4,k5⟩:=e4 p
 rw [e1,WT,T,K.won p hr]
 unfold NR
 dsimp only
 have hn:=k5 hr
 obtain ⟨s1, -, -,s4, -⟩:=J.sok (wdF x.pool.own,x.nxt) (by simp)
 have hnd:=J.snd
 rw [iP,lY] at hnd
 have hni:wdF x.pool.own ∉ S.map (·.1):=fun hm=>hnd.2.2 _ hm _ (by simp) rfl
 rw [fT (by rw [k1,k2,k4.2 hr];simp),fR ⟨by rw [hn];exact s1,by rw [k3,hr],by rw [hn];exact s4,by rw [hn];exact hni⟩,hn,iP]
 rfl
end
end Go.Proofs.YtccefppppedgkaaGreat
namespace Go.Proofs.YtccefppppedgkaaGreat
structure All (c:AB) (S:List Nm) (H:Nat→Int) (m:Mm) (l:List AC) (u:List CP):Prop where
 inv:Inv c S H m l
 chn:Chn c S m u
 whl:Whole c S l
 tag:QH c.tags m.log=some (ld m 0,S.map (·.1))
theorem j1_ {c:AB} {S:List Nm} {l:List AC} {t:Nat} {x:AC} (hz:1≤sizeC c) (W:Whole c S l) (q:AU):Whole c S (l.set t (begun x q)):=by
 intro u y hy hlen
 rcases AG hy with ⟨rfl,rfl⟩|⟨_,hy⟩
 ·have:(begun x q).buf=[]:=rfl
  rw [this] at hlen
  simp at hlen;omega
 ·exact W u y hy hlen
theorem p1_ {c:AB} {S:List Nm} {l:List AC} (w:Nm) (W:Whole c S l):Whole c (S++[w]) l:=fun t x h hl=>by
 rw [iP]
 exact iZ _ (W t x h hl)
theorem XI {c:AB} (f:Okc c):All c [(65537,startO c)] (fun _=>0) (DC c).m (DC c).tasks (DC c).turns where
 inv:=AlS f
 chn:=⟨rfl,by rw [(KC f).2.1];exact iN.2 rfl⟩
 whl:=fun t x h hl=>by
  obtain ⟨_,rfl⟩:=FJ h
  have hf:=f.facts
  have e:(({ AK with pool:=⟨⟨0,0⟩,poolL c t,[],0⟩}:AC).buf).length=0:=rfl
  rw [e] at hl
  omega
 tag:=by rw [(KC f).2.1];rfl
theorem JR {c:AB} (f:Okc c) {S:List Nm} {H:Nat→Int} {m:Mm} {l:List AC} {u:List CP} {t:Nat} {x:AC} {z:Int} (A:All c S H m l u) (hx:l[t]? = some x) (h0:x.pc≠0) :
  ∃S' H',All c S' H' (stepT c t x m).m (l.set t (stepT c t x m).x) (if (stepT c t x m).won then u++[⟨z,t,(stepT c t x m).ops⟩] else u) ∧ ∃S2,S'=S++S2:=by
 obtain ⟨I,C,W,T⟩:=A
 have hf:=f.facts
 have hl:=I.loc t x hx
 have hW:=p2_ (m:=m) I hx h0 (by omega) W
 by_cases hr:x.pc=15∧ld m 0=wdF x.base
 ·obtain ⟨p,hr⟩:=hr
  obtain ⟨w1,w2⟩:=u1_ (t:=t) (m:=m) (c:=c) p hr
  have J:=s_ f I hx p hr
  have W0:=(I.ctx f hx h0).won p hr
  rw [w1,w2,fR rfl]
  have hbuf:x.buf=IB c u u.length:=(I.buf t x _ hx (by rw [←hr];exact C.last)).2 (by omega) (by omega)
  have hn:x.nxt=IB c (u++[⟨z,t,x.found⟩]) (u.length+1):=by rw [AbN, ←hbuf];exact I.nx t x hx (by omega) (by omega)
  refine ⟨_,_,⟨J,⟨?_,?_⟩,p1_ _ hW,AiT f I hx p hr T⟩,_,rfl⟩
  ·rw [iP,C.rcs,fP,gT,kG (n:=u.length+1),iP]
   congr 1
   ·refine jR fun k hk=>?_
    exact (h_ (by have:=kN.1 hk;omega)).symm
   ·show [x.nxt]=[_];rw [hn]
  ·rw [W0,fP,gT, ←hn]
   exact iR _ (iN.2 rfl)
 ·rw [h9_ hl hr]
  have W0:=(I.ctx f hx h0).root hr
  exact ⟨S,_,⟨AfL f I hx h0 hr,⟨C.rcs,by rw [W0];exact C.last⟩,hW,AbU f I hx h0 hr T⟩,[],by simp⟩
theorem GA {c:AB} (f:Okc c) {S:List Nm} {H:Nat→Int} {m:Mm} {l:List AC} {u:List CP} {t:Nat} {x:AC} {q:AU} (A:All c S H m l u) (hx:l[t]? = some x) (hp:x.pc=0) (hq:BR q=true) (hs:x.seq<c.seqs):All c S H m (l.set t (begun x q)) u :=
 ⟨AaK A.inv hx hp hq hs,A.chn,j1_ (by have:=f.facts;omega) A.whl q,A.tag⟩
end Go.Proofs.YtccefppppedgkaaGreat
namespace Go.Proofs.YtccefppppedgkaaGreat
structure y4_ (o:DOp):Prop where
 t:0≤o.thread∧o.thread<64
 s:0≤o.seq∧o.seq≤1048575
 p:0≤o.phase∧o.phase≤4294967295
 f:BR o.req=true
structure RgM (m:Mm):Prop where
 wu:okU m.w
 gl:ld m 1≤m.log.length
 cl:m.cnt.length≤64
 cr : ∀x∈m.cnt,0≤x∧x≤m.log.length
structure RgT (B:Nat) (x:AC):Prop where
 ep:0≤x.epoch∧x.epoch≤B
 wd:0≤x.word∧x.word≤18446744073709551615
 ws:x.pc=9∨x.pc=10→x.word≤1048575
 bf:okU x.buf
 nx:okU x.nxt
 ar:okU x.args
 se:okU x.seen
 rd:0≤x.round∧x.round≤B+1
 tr:0≤x.tri∧x.tri≤B
 po:x.pool.free.length+x.pool.old.length≤64+B
 fo : ∀o∈x.found,y4_ o
 fl:x.found.length≤B
variable {x:AC}
theorem RgT.mono {A B:Nat} (h:RgT A x) (hB:A≤B):RgT B x where
 ep:=by have:=h.ep;omega
 wd:=h.wd
 ws:=h.ws
 bf:=h.bf
 nx:=h.nx
 ar:=h.ar
 se:=h.se
 rd:=by have:=h.rd;omega
 tr:=by have:=h.tr;omega
 po:=by have:=h.po;omega
 fo:=h.fo
 fl:=by have:=h.fl;omega
theorem U0:(0:Int)≤0∧(0:Int)≤18446744073709551615:=by decide
variable {p:Int}
theorem BL {Q:Prop} (h:p≠9∧p≠10):p=9∨p=10→Q:=fun g=>by omega
theorem YJ {c:Prop} [Decidable c] {a b:Int} {Q:Prop} (ha:a≠9∧a≠10) (hb:b≠9∧b≠10):(if c then a else b)=9∨(if c then a else b)=10→Q:=fun g=>by split at g<;>omega
theorem DO:okU []:=fun w h=>by cases h
theorem YQ {l ws:List Int} (h:okU l) (a:Nat) (hw:okU ws):okU (pokeL l a ws):=fun v hv=>by
 unfold pokeL at hv
 simp only [gQ] at hv
 rcases hv with (hv|hv)|hv
 ·exact h v (iQ hv)
 ·exact hw v hv
 ·exact h v (iF hv)
variable {w:Int}
theorem EU {l:List Int} (h:okU l) (hw:0≤w∧w≤18446744073709551615):okU (l++[w]):=fun v hv=>by
 rcases gQ.1 hv with h'|h'
 ·exact h v h'
 ·rw [iN.1 h'];exact hw
theorem YM {l:List Int} (h:okU l) {i:Nat} (hw:0≤w∧w≤18446744073709551615):okU (l.set i w):=fun v hv=>by
 rcases iX hv with h'|h'
 ·exact h v h'
 ·rw [h'];exact hw
theorem TD {l:List Int} (h:okU l) (i:Nat):0≤l.getD i 0∧l.getD i 0≤18446744073709551615:=by
 rw [fQ]
 cases hx:l[i]? with
 |none=>exact ⟨gL _,by decide⟩
 |some a=>exact h a (fO hx)
variable {m:Mm}
theorem MN (h:okU m.w) (a:Int):0≤ld m a∧ld m a≤18446744073709551615:=TD h _
theorem x_ (r:HA):0≤wdF r∧wdF r≤18446744073709551615:=by have:=QI r.index r.tag;unfold wdF;omega
variable {c:AB}
theorem AcY (ops:List DOp) : ∀ {l:List Int},okU l→okU (allO c l ops):=by
 induction ops with
 |nil=>exact fun h=>h
 |cons o ops ih=>exact fun h=>ih (l:=FN c _ o.thread o.seq o.req) (ZW h _ _ _)
theorem AlJ {q:AU} (h:BR q=true):0≤SN q∧SN q≤18446744073709551615:=by
 unfold BR at h
 simp only [gG,BX,gM] at h
 unfold SN JK
 split<;>omega
theorem AoW {k:BF} (h:CT k=true):0≤wordK k∧wordK k≤18446744073709551615:=by
 unfold CT at h
 simp only [gG,BX,gM] at h
 unfold wordK
 omega
theorem AdL {q:AU} (hp:0≤p∧p≤4294967295):okU (IL q p):=by
 unfold IL
 split
 ·rename_i h
  have h1:=AlJ h
  have h2:okU (q.cases.map wordK):=fun w hw=>by
   obtain ⟨k,hk,rfl⟩:=iW.1 hw
   unfold BR at h
   simp only [gG,iI] at h
   exact AoW (h.2 k hk)
  intro w hw
  unfold HM at hw
  rcases iH.1 hw with rfl|hw
  ·exact h1
  ·exact EU (ZJ h2) (by omega) w hw
 ·exact DO
theorem AbV (last:Int) (p:BV):(takeP last p).free.length+(takeP last p).old.length≤p.free.length+p.old.length:=by
 unfold takeP
 have:=WU (last:=last) (i:=p.own.index) (t:=p.own.tag) p.free p.spent
 dsimp only
 omega
theorem backP_len (p:BV) (pr:CD→Bool):(backP p pr).free.length+(backP p pr).old.length=p.free.length+p.old.length:=WE pr p.free p.old
variable {B:Nat}
theorem v1_ (h:RgT B x):RgT B (takeT c x):=by
 obtain ⟨p,sc,r,e,hp⟩:=IE c x
 rw [e]
 exact ⟨h.ep,h.wd,fun g=>by dsimp only at g;omega,h.bf,h.nx,h.ar,h.se,h.rd,h.tr,jA (AbV _ _) h.po,h.fo,h.fl⟩
theorem YV (h:RgT B x):RgT (B+1) (failT c x):=by
 obtain ⟨p,e,hp⟩:=HP c x
 rw [e]
 have k:=h.mono (kI B)
 have:=h.rd
 exact ⟨k.ep,k.wd,fun g=>by dsimp only at g;omega,k.bf,k.nx,k.ar,k.se,⟨by dsimp only;omega,by dsimp only;omega⟩,k.tr,k.po,fun o ho=>(by cases ho),fX _⟩
theorem IW (h:RgT B x):RgT B (nextSeqT c x):=by
 obtain ⟨i,tr,p,e,hp⟩:=JX c x
 rw [e]
 refine ⟨h.ep,h.wd,fun g=>by dsimp only at g;omega,h.bf,h.nx,h.ar,h.se,h.rd,?_,h.po,h.fo,h.fl⟩
 dsimp only
 rcases hp with ⟨_,_,rfl,_⟩|⟨_,_,rfl,_⟩
 ·exact ⟨gL _,by omega⟩
 ·exact h.tr
variable {t:Nat}
theorem AhZ {c:AB} (h:RgT B x) (ht:t<64) (hs:0≤x.seq∧x.seq≤1048575) (hf:BR x.req=true):(∀o∈HG t x,y4_ o)∧(HG t x).length≤B+1:=by
 unfold HG
 have h1 : ∀o∈isort KR x.found,y4_ o:=fun o ho=>h.fo o (EO.1 ho)
 have h2:=CC (key:=KR) x.found
 have h3:=h.fl
 split
 ·exact ⟨h1,by omega⟩
 ·refine ⟨fun o ho=>?_,by rw [fP,h2,gT];omega⟩
  rcases gQ.1 ho with ho|ho
  ·exact h1 o ho
  ·rw [iN.1 ho]
   exact ⟨⟨by dsimp only;omega,by dsimp only;omega⟩,hs,⟨gL _,(by decide:(0:Int)≤4294967295)⟩,hf⟩
theorem YW (h:RgT (B+1) x) (ht:t<64) (hs:0≤x.seq∧x.seq≤1048575) (hf:BR x.req=true) (hl:x.found.length≤B):RgT (B+1) (nextMailT c t x):=by
 obtain ⟨i,p,f,n,e,hp⟩:=FW c t x
 rw [e]
 have ho:=AhZ (c:=c) h ht hs hf
 have hl2:(HG t x).length≤B+1:=by
  unfold HG
  have h2:=CC (key:=KR) x.found
  split
  ·omega
  ·rw [fP,h2,gT];omega
 rcases hp with ⟨_,_,_,rfl,rfl⟩|⟨_,_,_,rfl,rfl⟩
 ·exact ⟨h.ep,h.wd,fun g=>by dsimp only at g;omega,h.bf,h.nx,h.ar,h.se,h.rd,⟨gL _,by dsimp only;omega⟩,h.po,h.fo,h.fl⟩
 ·exact ⟨h.ep,h.wd,fun g=>by dsimp only at g;omega,h.bf,AcY _ h.bf,h.ar,h.se,h.rd,⟨gL _,by dsimp only;omega⟩,h.po,ho.1,hl2⟩
theorem g4_ (h:RgT B x) (ht:t<64) (hs:0≤x.seq∧x.seq≤1048575) (hf:BR x.req=true):RgT (B+1) (nextMailT c t x):=by
 obtain ⟨i,p,f,n,e,hp⟩:=FW c t x
 rw [e]
 have k:=h.mono (kI B)
 have ho:=AhZ (c:=c) h ht hs hf
 rcases hp with ⟨_,_,_,rfl,rfl⟩|⟨_,_,_,rfl,rfl⟩
 ·exact ⟨k.ep,k.wd,fun g=>by dsimp only at g;omega,k.bf,k.nx,k.ar,k.se,k.rd,⟨gL _,by dsimp only;omega⟩,k.po,k.fo,k.fl⟩
 ·exact ⟨k.ep,k.wd,fun g=>by dsimp only at g;omega,k.bf,AcY _ k.bf,k.ar,k.se,k.rd,⟨gL _,by dsimp only;omega⟩,k.po,ho.1,ho.2⟩
theorem LQ (h:RgT B x):RgT B (scannedT c x):=by
 rcases EQ c x with ⟨_,e⟩|⟨_,e⟩
 ·rw [e];exact v1_ h
 ·rw [e];exact ⟨h.ep,h.wd,fun g=>by dsimp only at g;omega,h.bf,h.nx,h.ar,h.se,h.rd,h.tr,h.po,h.fo,h.fl⟩
theorem QY {p:BV} (hp:p.free.length+p.old.length≤64+B) (e : ∃pc seq req res wa,(pc=0∨pc=1∨pc=29)∧x={ AK with pc:=pc,seq:=seq,req:=req,res:=res,waits:=wa,pool:=p }):RgT B x:=by
 obtain ⟨pc,seq,req,res,wa,hq,rfl⟩:=e
 exact ⟨⟨gL _,by show (0:Int)≤_;omega⟩,U0,BL (p:=pc) (by omega),DO,DO,DO,DO,⟨gL _,by show (0:Int)≤_;omega⟩,⟨gL _,by show (0:Int)≤_;omega⟩,hp,fun o ho=>(by cases ho),fX _⟩
theorem WN (h:RgT B x):RgT B (finishT x):=QY h.po ⟨_,_,_,_,_,.inl rfl,rfl⟩
theorem g5_ (h:RgT B x):RgT B (ownedT c x m).x:=by
 rcases EP c x m with ⟨_,e⟩|⟨_,_,e⟩|⟨_,_,e⟩
 ·rw [e];exact WN h
 ·rw [e];exact ⟨h.ep,h.wd,fun g=>by dsimp only at g;omega,h.bf,h.nx,h.ar,h.se,h.rd,h.tr,h.po,h.fo,h.fl⟩
 ·rw [e];exact ⟨h.ep,h.wd,fun g=>by dsimp only at g;omega,h.bf,h.nx,h.ar,h.se,h.rd,h.tr,h.po,h.fo,h.fl⟩
theorem AbB {l:List Int} (h:okU l) {q:AU} (e:YR l=some (q,p)):BR q=true∧0≤p∧p≤4294967295:=by
 match l,h,e with
 | [],_,e=>cases e
 | [_],_,e=>cases e
 | [_,_],_,e=>cases e
 | [_,_,_],_,e=>cases e
 | [_,_,_,_],_,e=>cases e
 | [a,b,d,g,p'],h,e =>
  unfold YR at e
  cases hm:KS a b d g p'
  ·simp [hm] at e
  ·simp only [hm,jU,mN,Prod.mk.injEq] at e
   obtain ⟨rfl,rfl⟩:=e
   have h1:=h a (by simp)
   have h2:=h b (by simp)
   have h3:=h d (by simp)
   have h4:=h g (by simp)
   have h5:=h p' (by simp)
   have hm':=hm
   unfold KS at hm'
   simp only [gG,gM] at hm'
   exact ⟨((VJ h1 h2 h3 h4 hm'.1.1 hm'.1.2.2.2.1).2 hm).1,h5.1,hm'.1.1⟩
 |_::_::_::_::_::_::_,_,e=>cases e
theorem AoZ (x:Int):0≤NX x∧NX x≤18446744073709551615:=by unfold NX;omega
theorem AnQ (f:Okc c) (h:AQ c x) (ht:t<64) (hm:RgM m) (hB:m.log.length=B) (r:RgT B x):RgT (B+1) (stepT c t x m).x:=by
 have hf:=f.facts
 have k:=r.mono (kI B)
 have hg:=hm.gl
 rw [hB] at hg
 have hu:=MN hm.wu
 have hs:0≤x.seq∧x.seq≤1048575:=by have:=h.seq;omega
 have htr:=r.tr
 have hpo:=r.po
 have hfl:=r.fl
 obtain ⟨q,p,hk2,hat⟩:=BA h
 rw [AE p]
 have hfit:q≠0→BR x.req=true:=fun hq=>h.fit (by omega)
 have hz:=AS hk2
 repeat' (rcases hz with rfl|hz)
 ·exact k
 ·exact ⟨⟨(hu 1).1,(by omega:ld m 1≤((B+1:Nat):Int))⟩,k.wd,(BL (p:=2) (by decide)),k.bf,k.nx,k.ar,k.se,k.rd,k.tr,k.po,k.fo,k.fl⟩
 ·exact v1_ k
 ·exact ⟨k.ep,k.wd,(BL (p:=4) (by decide)),k.bf,k.nx,k.ar,k.se,k.rd,k.tr,k.po,k.fo,k.fl⟩
 ·exact ⟨k.ep,k.wd,(BL (p:=5) (by decide)),k.bf,k.nx,k.ar,k.se,k.rd,k.tr,k.po,k.fo,k.fl⟩
 ·change RgT _ (s5 c t x m).x;unfold s5;dsimp only
  split
  ·exact ⟨k.ep,k.wd,(BL (p:=6) (by decide)),k.bf,k.nx,k.ar,k.se,k.rd,k.tr,k.po,k.fo,k.fl⟩
  ·exact YV r
 ·change RgT _ (s6 c t x m).x;unfold s6;dsimp only
  split
  ·exact ⟨k.ep,k.wd,(BL (p:=7) (by decide)),DO,k.nx,k.ar,k.se,k.rd,k.tr,k.po,k.fo,k.fl⟩
  ·exact YV r
 ·change RgT _ (s7 c t x m).x;unfold s7 BB;dsimp only
  split
  ·exact ⟨k.ep,k.wd,(BL (p:=x.pc) (by omega)),EU k.bf (hu _),k.nx,k.ar,k.se,k.rd,k.tr,k.po,k.fo,k.fl⟩
  ·split
   ·exact ⟨k.ep,k.wd,(BL (p:=20) (by decide)),EU k.bf (hu _),k.nx,k.ar,k.se,k.rd,k.tr,k.po,fun o ho=>(by cases ho),fX _⟩
   ·exact ⟨k.ep,k.wd,(BL (p:=8) (by decide)),EU k.bf (hu _),k.nx,k.ar,k.se,k.rd,k.tr,k.po,fun o ho=>(by cases ho),fX _⟩
 ·change RgT _ (s8 c t x m).x;unfold s8;dsimp only
  split
  ·exact IW ⟨k.ep,hu _,(BL (p:=x.pc) (by omega)),k.bf,k.nx,k.ar,k.se,k.rd,k.tr,k.po,k.fo,k.fl⟩
  ·rename_i hc
   exact ⟨k.ep,hu _,(fun _=>(by omega:ld m (aSeq c x.i)≤1048575)),k.bf,k.nx,DO,k.se,k.rd,k.tr,k.po,k.fo,k.fl⟩
 ·change RgT _ (s9 c t x m).x;unfold s9;dsimp only
  have hw:=k.ws (.inl p)
  split
  ·exact ⟨k.ep,k.wd,(fun _=>hw),k.bf,k.nx,EU k.ar (hu _),k.se,k.rd,k.tr,k.po,k.fo,k.fl⟩
  ·exact ⟨k.ep,k.wd,(fun _=>hw),k.bf,k.nx,EU k.ar (hu _),k.se,k.rd,k.tr,k.po,k.fo,k.fl⟩
 ·change RgT _ (s10 c t x m).x;unfold s10 CE;dsimp only
  have hws:=k.ws (.inr p)
  split
  ·rename_i qq pp e
   split
   ·rename_i ew
    refine IW ⟨k.ep,k.wd,fun _=>hws,k.bf,k.nx,k.ar,k.se,k.rd,k.tr,k.po,fun o ho=>?_,by dsimp only;rw [fP,gT];omega⟩
    rcases gQ.1 ho with ho|ho
    ·exact k.fo o ho
    ·rw [iN.1 ho]
     obtain ⟨q1,q2⟩:=AbB r.ar e
     have hi:=hat.2.1
     have hw:=r.wd
     exact ⟨⟨by dsimp only;omega,by dsimp only;omega⟩,⟨hw.1,hws⟩,q2,q1⟩
   ·exact IW k
  ·exact IW k
 ·change RgT _ (s11 c t x m).x;unfold s11;dsimp only
  split
  ·exact ⟨k.ep,hu _,(BL (p:=12) (by decide)),k.bf,k.nx,k.ar,k.se,k.rd,k.tr,k.po,k.fo,k.fl⟩
  ·exact g4_ ⟨r.ep,hu _,(BL (p:=x.pc) (by omega)),r.bf,r.nx,r.ar,r.se,r.rd,r.tr,r.po,r.fo,r.fl⟩ ht hs (hfit (by decide))
 ·change RgT _ (s12 c t x m).x;unfold s12;dsimp only
  have hT:RgT (B+1) { x with tri:=x.tri+1 }:=⟨k.ep,k.wd,(BL (p:=x.pc) (by omega)),k.bf,k.nx,k.ar,k.se,k.rd,⟨(by omega:0≤x.tri+1),(by omega:x.tri+1≤((B+1:Nat):Int))⟩,k.po,k.fo,k.fl⟩
  split
  ·exact YW hT ht hs (hfit (by decide)) hfl
  ·exact ⟨k.ep,k.wd,(BL (p:=11) (by decide)),k.bf,k.nx,k.ar,k.se,k.rd,⟨(by omega:0≤x.tri+1),(by omega:x.tri+1≤((B+1:Nat):Int))⟩,k.po,k.fo,k.fl⟩
 ·exact ⟨k.ep,k.wd,(BL (p:=14) (by decide)),k.bf,k.nx,k.ar,k.se,k.rd,k.tr,k.po,k.fo,k.fl⟩
 ·change RgT _ (s14 c t x m).x;unfold s14;dsimp only
  split
  ·exact ⟨k.ep,k.wd,(BL (p:=15) (by decide)),k.bf,k.nx,k.ar,k.se,k.rd,k.tr,k.po,k.fo,k.fl⟩
  ·exact ⟨k.ep,k.wd,(BL (p:=x.pc) (by omega)),k.bf,k.nx,k.ar,k.se,k.rd,k.tr,k.po,k.fo,k.fl⟩
 ·change RgT _ (s15 c t x m).x;unfold s15
  have hpl:(leaveP x.pool).free.length+(leaveP x.pool).old.length≤64+(B+1):=k.po
  split
  ·exact ⟨k.ep,k.wd,(BL (p:=20) (by decide)),k.bf,k.nx,k.ar,k.se,k.rd,k.tr,hpl,k.fo,k.fl⟩
  ·exact YV r
 ·exact ⟨k.ep,k.wd,(BL (p:=17) (by decide)),k.bf,k.nx,AdL (by omega),k.se,k.rd,k.tr,k.po,k.fo,k.fl⟩
 ·change RgT _ (s17 c t x m).x;unfold s17;dsimp only
  split
  ·exact ⟨k.ep,k.wd,(BL (p:=18) (by decide)),k.bf,k.nx,k.ar,k.se,k.rd,k.tr,k.po,k.fo,k.fl⟩
  ·exact ⟨k.ep,k.wd,(BL (p:=x.pc) (by omega)),k.bf,k.nx,k.ar,k.se,k.rd,k.tr,k.po,k.fo,k.fl⟩
 ·exact ⟨k.ep,k.wd,(BL (p:=3) (by decide)),k.bf,k.nx,k.ar,k.se,⟨(by decide:(0:Int)≤1),(by omega:(1:Int)≤((B+1:Nat):Int)+1)⟩,k.tr,k.po,k.fo,k.fl⟩
 ·exact ⟨k.ep,k.wd,(BL (p:=20) (by decide)),k.bf,k.nx,k.ar,k.se,k.rd,k.tr,k.po,k.fo,k.fl⟩
 ·change RgT _ (s20 c t x m).x;unfold s20;dsimp only
  exact ⟨k.ep,k.wd,(YJ (a:=21) (b:=22) (by decide) (by decide)),k.bf,k.nx,k.ar,k.se,k.rd,⟨gL _,(by omega:(0:Int)≤((B+1:Nat):Int))⟩,k.po,k.fo,k.fl⟩
 ·change RgT _ (s21 c t x m).x;unfold s21;dsimp only
  exact ⟨k.ep,k.wd,(BL (p:=22) (by decide)),k.bf,k.nx,k.ar,k.se,k.rd,k.tr,(by show x.pool.free.length+(x.pool.old++[_]).length≤_;rw [fP,gT];omega),k.fo,k.fl⟩
 ·change RgT _ (s22 c t x m).x;unfold s22;dsimp only
  split
  ·exact ⟨k.ep,hu _,(BL (p:=23) (by decide)),k.bf,k.nx,k.ar,k.se,k.rd,k.tr,k.po,k.fo,k.fl⟩
  ·exact g5_ ⟨k.ep,hu _,(BL (p:=x.pc) (by omega)),k.bf,k.nx,k.ar,k.se,k.rd,k.tr,k.po,k.fo,k.fl⟩
 ·change RgT _ (s23 c t x m).x;unfold s23;dsimp only
  split
  ·exact g5_ ⟨k.ep,k.wd,(BL (p:=22) (by decide)),k.bf,k.nx,k.ar,k.se,k.rd,⟨(by omega:0≤x.tri+1),(by omega:x.tri+1≤((B+1:Nat):Int))⟩,k.po,k.fo,k.fl⟩
  ·exact ⟨k.ep,k.wd,(BL (p:=22) (by decide)),k.bf,k.nx,k.ar,k.se,k.rd,⟨(by omega:0≤x.tri+1),(by omega:x.tri+1≤((B+1:Nat):Int))⟩,k.po,k.fo,k.fl⟩
 ·change RgT _ (s24 c t x m).x;unfold s24;dsimp only
  split
  ·exact ⟨k.ep,hu _,(BL (p:=25) (by decide)),k.bf,k.nx,k.ar,k.se,k.rd,k.tr,eK,k.fo,k.fl⟩
  ·exact LQ ⟨k.ep,hu _,(BL (p:=25) (by decide)),k.bf,k.nx,k.ar,k.se,k.rd,k.tr,eK,k.fo,k.fl⟩
 ·change RgT _ (s25 c t x m).x;unfold s25;dsimp only
  split
  ·exact ⟨k.ep,k.wd,(BL (p:=x.pc) (by omega)),k.bf,k.nx,k.ar,k.se,k.rd,k.tr,k.po,k.fo,k.fl⟩
  ·exact ⟨k.ep,k.wd,(YJ (a:=26) (b:=27) (by decide) (by decide)),k.bf,k.nx,k.ar,DO,k.rd,k.tr,k.po,k.fo,k.fl⟩
 ·change RgT _ (s26 c t x m).x;unfold s26;dsimp only
  have hpo2:(if ld m 1=x.word then backP x.pool (prE (x.word+1)) else x.pool).free.length+(if ld m 1=x.word then backP x.pool (prE (x.word+1)) else x.pool).old.length≤64+(B+1):=by
   split
   ·rw [backP_len];omega
   ·omega
  generalize (if ld m 1=x.word then backP x.pool (prE (x.word+1)) else x.pool)=pl at *
  split
  ·exact ⟨k.ep,k.wd,(BL (p:=27) (by decide)),k.bf,k.nx,k.ar,k.se,k.rd,k.tr,hpo2,k.fo,k.fl⟩
  ·exact LQ ⟨k.ep,k.wd,(BL (p:=27) (by decide)),k.bf,k.nx,k.ar,k.se,k.rd,k.tr,hpo2,k.fo,k.fl⟩
 ·change RgT _ (s27 c t x m).x;unfold s27;dsimp only
  split
  ·exact LQ ⟨k.ep,k.wd,(BL (p:=x.pc) (by omega)),k.bf,k.nx,k.ar,EU k.se (hu _),k.rd,k.tr,eK,k.fo,k.fl⟩
  ·exact ⟨k.ep,k.wd,(BL (p:=x.pc) (by omega)),k.bf,k.nx,k.ar,EU k.se (hu _),k.rd,k.tr,k.po,k.fo,k.fl⟩
 ·change RgT _ (s28 c t x m).x;unfold s28;dsimp only
  split
  ·exact QY k.po ⟨_,_,_,_,_,.inr (.inr rfl),rfl⟩
  ·exact WN k
 ·change RgT _ (s29 c t x m).x;unfold s29;dsimp only
  split
  ·exact QY k.po ⟨_,_,_,_,_,.inl rfl,rfl⟩
  ·exact ⟨k.ep,k.wd,(BL (p:=30) (by decide)),k.bf,k.nx,k.ar,k.se,k.rd,k.tr,k.po,k.fo,k.fl⟩
 ·exact ⟨⟨(hu 1).1,(by omega:ld m 1≤((B+1:Nat):Int))⟩,k.wd,(BL (p:=31) (by decide)),k.bf,k.nx,k.ar,k.se,k.rd,k.tr,k.po,k.fo,k.fl⟩
 ·exact ⟨k.ep,k.wd,(BL (p:=32) (by decide)),k.bf,k.nx,k.ar,k.se,k.rd,k.tr,k.po,k.fo,k.fl⟩
 ·exact ⟨k.ep,k.wd,(BL (p:=33) (by decide)),k.bf,k.nx,k.ar,k.se,k.rd,k.tr,k.po,k.fo,k.fl⟩
 ·exact ⟨k.ep,k.wd,(BL (p:=34) (by decide)),k.bf,k.nx,k.ar,k.se,k.rd,k.tr,k.po,k.fo,k.fl⟩
 ·change RgT _ (s34 c t x m).x;unfold s34;dsimp only
  exact ⟨k.ep,U0,(YJ (a:=35) (b:=37) (by decide) (by decide)),k.bf,k.nx,k.ar,k.se,k.rd,k.tr,k.po,k.fo,k.fl⟩
 ·change RgT _ (s35 c t x m).x;unfold s35;dsimp only
  exact ⟨k.ep,k.wd,(YJ (a:=36) (b:=37) (by decide) (by decide)),k.bf,k.nx,k.ar,k.se,k.rd,k.tr,k.po,k.fo,k.fl⟩
 ·exact ⟨k.ep,hu _,(BL (p:=37) (by decide)),k.bf,k.nx,k.ar,k.se,k.rd,k.tr,k.po,k.fo,k.fl⟩
 ·exact ⟨k.ep,k.wd,(BL (p:=38) (by decide)),k.bf,k.nx,k.ar,k.se,k.rd,k.tr,k.po,k.fo,k.fl⟩
 ·change RgT _ (s38 c t x m).x;unfold s38;dsimp only
  split
  ·exact ⟨k.ep,k.wd,(BL (p:=22) (by decide)),k.bf,k.nx,k.ar,k.se,k.rd,⟨gL _,(by omega:(0:Int)≤((B+1:Nat):Int))⟩,k.po,k.fo,k.fl⟩
  ·exact ⟨k.ep,k.wd,(BL (p:=29) (by decide)),k.bf,k.nx,k.ar,k.se,k.rd,k.tr,k.po,k.fo,k.fl⟩
variable {a v:Int}
theorem FE (h:okU m.w) (hv:0≤v∧v≤18446744073709551615):okU (stM m t a v).w:=YM h hv
theorem OP (h:okU m.w) (hv:0≤v∧v≤18446744073709551615):okU (swM m t a w v).w:=by
 rw [QG]
 split
 ·exact YM h hv
 ·exact h
theorem AeH {g:Int} (h:0≤g∧g≤B) (hB:B≤1048576):0≤GM g∧GM g≤18446744073709551615:=by unfold GM;omega
theorem AiB (f:Okc c) (h:AQ c x) (hw:okU m.w) (hB20:B≤1048576) (r:RgT B x) (ho:x.pool.own.tag≠0→1≤x.pool.own.tag∧x.pool.own.tag≤c.tags) (hg2:x.pc=25∨x.pc=26→0≤x.word∧x.word≤B):okU (stepT c t x m).m.w:=by
 have hf:=f.facts
 have hs:0≤x.seq∧x.seq≤1048575:=by have:=h.seq;omega
 have z0:(0:Int)≤0∧(0:Int)≤18446744073709551615:=by decide
 obtain ⟨q,p,hk2,hat⟩:=BA h
 rw [AE p]
 have hz:=AS hk2
 repeat' (rcases hz with rfl|hz)
 ·exact hw
 ·exact hw
 ·exact FE hw (AeH r.ep hB20)
 ·exact hw
 ·exact FE hw (x_ _)
 ·exact hw
 ·exact hw
 ·exact hw
 ·exact hw
 ·exact hw
 ·exact hw
 ·exact hw
 ·exact OP hw (QP r.bf _)
 ·exact FE hw (by have:=ho (by exact hat.1.2);omega)
 ·exact FE hw (TD r.nx _)
 ·change okU (s15 c t x m).m.w;unfold s15;split
  ·exact OP hw (x_ _)
  ·exact OP hw (x_ _)
 ·exact YM hw (AoZ _)
 ·exact FE hw (TD r.ar _)
 ·exact FE hw (by omega)
 ·exact hw
 ·exact FE hw z0
 ·exact hw
 ·change okU (s22 c t x m).m.w;unfold s22;dsimp only;split
  ·exact hw
  ·rw [ED];exact hw
 ·change okU (s23 c t x m).m.w;unfold s23;dsimp only;split
  ·rw [ED];exact OP hw (RL _)
  ·exact OP hw (RL _)
 ·exact hw
 ·exact hw
 ·have hi:=hg2 (by omega)
  exact OP hw (show 0≤x.word+1∧x.word+1≤18446744073709551615 by omega)
 ·exact hw
 ·change okU (s28 c t x m).m.w;unfold s28;split
  ·exact FE hw z0
  ·exact FE hw z0
 ·change okU (s29 c t x m).m.w;unfold s29;dsimp only;split
  ·exact hw
  ·exact hw
 ·exact hw
 ·exact FE hw (AeH r.ep hB20)
 ·exact hw
 ·exact FE hw (x_ _)
 ·exact hw
 ·exact hw
 ·exact hw
 ·exact FE hw z0
 ·exact FE hw z0
theorem NO (m:Mm) (t:Nat) (a w v:Int):(swM m t a w v).cnt=cntM m.cnt t:=by unfold swM;split<;>rfl
theorem h8_ (h:AQ c x) (h0:x.pc≠0):(stepT c t x m).m.cnt=cntM m.cnt t:=by
 obtain ⟨q,p,hk2,hat⟩:=BA h
 rw [AE p]
 have hz:=AS hk2
 repeat' (rcases hz with rfl|hz)
 ·exact absurd p h0
 ·rfl
 ·rfl
 ·rfl
 ·rfl
 ·rfl
 ·rfl
 ·rfl
 ·rfl
 ·rfl
 ·rfl
 ·rfl
 ·exact NO _ _ _ _ _
 ·rfl
 ·rfl
 ·change (s15 c t x m).m.cnt=_;unfold s15;split<;>exact NO _ _ _ _ _
 ·rfl
 ·rfl
 ·rfl
 ·rfl
 ·rfl
 ·rfl
 ·change (s22 c t x m).m.cnt=_;unfold s22;dsimp only;split
  ·rfl
  ·rw [ED];rfl
 ·change (s23 c t x m).m.cnt=_;unfold s23;dsimp only;split
  ·rw [ED];exact NO _ _ _ _ _
  ·exact NO _ _ _ _ _
 ·rfl
 ·rfl
 ·exact NO _ _ _ _ _
 ·rfl
 ·change (s28 c t x m).m.cnt=_;unfold s28;dsimp only;split<;>rfl
 ·change (s29 c t x m).m.cnt=_;unfold s29;dsimp only;split<;>rfl
 ·rfl
 ·rfl
 ·rfl
 ·rfl
 ·rfl
 ·rfl
 ·rfl
 ·rfl
 ·rfl
theorem AkN {l:List Int} (h : ∀x∈l,0≤x∧x≤(B:Int)) : ∀x∈cntM l t,0≤x∧x≤((B+1:Nat):Int):=by
 intro x hx
 unfold cntM at hx
 dsimp only at hx
 have hz : ∀y∈l++List.replicate (t+1-l.length) (0:Int),0≤y∧y≤(B:Int):=fun y hy=>by
  rcases gQ.1 hy with hy|hy
  ·exact h y hy
  ·rw [jD hy];omega
 generalize l++List.replicate (t+1-l.length) (0:Int)=z at *
 rcases iX hx with hx|rfl
 ·have:=hz x hx;omega
 ·rw [fQ]
  cases hy:z[t]? with
  |none=>dsimp only [Option.getD];omega
  |some y=>have:=hz y (fO hy);dsimp only [Option.getD];omega
theorem AkM {l:List Int} (h:l.length≤64) (ht:t<64):(cntM l t).length≤64:=by
 unfold cntM
 dsimp only
 rw [iS,fP,iV];omega
theorem AiA (f:Okc c) (k:Ctx c t x m) (ht:t<64) (hm:RgM m) (hB:m.log.length=B) (hB20:B≤1048576) (r:RgT B x) (ho:x.pool.own.tag≠0→1≤x.pool.own.tag∧x.pool.own.tag≤c.tags) (hg2:x.pc=25∨x.pc=26→0≤x.word∧x.word≤ld m 1):RgM (stepT c t x m).m∧(stepT c t x m).m.log.length=B+1:=by
 obtain ⟨e,h1, -⟩:=EE (t:=t) (m:=m) k.h k.h0
 have hg:=hm.gl
 have hl:(stepT c t x m).m.log.length=B+1:=by rw [h1,fP,hB];rfl
 refine ⟨⟨AiB f k.h hm.wu hB20 r ho (fun g=>by have:=hg2 g;omega),?_,?_,?_⟩,hl⟩
 ·rw [hl]
  rcases k.glob with g|⟨_,g1,g2⟩
  ·rw [g];omega
  ·rw [g2];omega
 ·rw [h8_ k.h k.h0];exact AkM hm.cl ht
 ·rw [h8_ k.h k.h0,hl, ←hB];exact AkN hm.cr
def Lrg (m:Mm) (l:List AC):Prop:=m.log.length≤1048576→RgM m ∧ ∀(t:Nat) x,l[t]? = some x→RgT m.log.length x
theorem KI {l:List AC} (L:Lrg m l) (hx:l[t]? = some x) (q:AU):Lrg m (l.set t (begun x q)):=fun h=>by
 obtain ⟨a,b⟩:=L h
 refine ⟨a,fun u y hy=>?_⟩
 rcases AG hy with ⟨rfl,rfl⟩|⟨_,hy⟩
 ·have r:=b u x hx
  exact ⟨⟨gL _,by show (0:Int)≤_;omega⟩,U0,BL (p:=1) (by decide),DO,DO,DO,DO,⟨(by decide:(0:Int)≤1),by show (1:Int)≤_;omega⟩,⟨gL _,by show (0:Int)≤_;omega⟩,r.po,fun o ho=>(by cases ho),fX _⟩
 ·exact b u y hy
theorem SY (f:Okc c) {S:List Nm} {H:Nat→Int} {l:List AC} (I:Inv c S H m l) (L:Lrg m l) (hx:l[t]? = some x) (h0:x.pc≠0):Lrg (stepT c t x m).m (l.set t (stepT c t x m).x):=fun h=>by
 have k:=I.ctx f hx h0
 obtain ⟨e,h1, -⟩:=EE (t:=t) (m:=m) k.h k.h0
 have hl:(stepT c t x m).m.log.length=m.log.length+1:=by rw [h1,fP];rfl
 have ht:t<64:=by have:=k.ht;have:=f.facts;omega
 obtain ⟨a,b⟩:=L (by omega)
 have r:=b t x hx
 obtain ⟨g1,g2⟩:=AiA f k ht a rfl (by omega) r (I.own t x hx) (I.sg t x hx)
 refine ⟨g1,fun u y hy=>?_⟩
 rw [hl]
 rcases AG hy with ⟨rfl,rfl⟩|⟨_,hy⟩
 ·exact AnQ f k.h ht a rfl r
 ·exact (b u y hy).mono (kI _)
theorem AmR (f:Okc c):Lrg (DC c).m (DC c).tasks:=fun _=>by
 have hs:=KC f
 refine ⟨⟨?_,?_,fX _,fun x h=>(by cases h)⟩,fun t x h=>?_⟩
 ·have:okU (setupL c):=by
   unfold setupL
   have h0:okU (List.replicate (totL c).toNat 0):=fun w hw=>by rw [jD hw];decide
   exact YQ (YQ (YQ h0 _ (EU DO (by decide))) _ (EU DO (by decide))) _ (AiQ c)
  exact this
 ·rw [hs.2.2.1];exact gL _
 ·obtain ⟨ht,rfl⟩:=FJ h
  have hd:=f.nod
  refine QY ?_ ⟨_,_,_,_,_,.inl rfl,rfl⟩
  show (poolL c t).length+0≤64+0
  rw [TM f ht,MU]
  omega
def US (c:AB) (m:Mm) (l:List AC) (u:List CP):Prop:=∃S H,All c S H m l u∧Lrg m l
theorem s2_ (f:Okc c):US c (DC c).m (DC c).tasks (DC c).turns:=⟨_,_,XI f,AmR f⟩
theorem AsZ (f:Okc c) {s:Mc} (h:US c s.m s.tasks s.turns) (e:DB):US c (doM c s e).m (doM c s e).tasks (doM c s e).turns:=by
 refine SC (K:=US c) (fun m l u t q h ht hp hq hs=>?_) (fun m l u t z h ht h0=>?_) h e
 all_goals
  obtain ⟨S,H,A,L⟩:=h
  have hlt:t<l.length:=by have:=A.inv.ll;unfold thrN at ht;omega
  have hx:l[t]? = some (l.getD t AK):=by rw [fQ,ZgE hlt];rfl
 ·exact ⟨S,H,GA f A hx hp hq hs,KI L hx q⟩
 ·obtain ⟨S',H',B,_⟩:=JR (z:=z) f A hx h0
  exact ⟨S',H',B,SY f A.inv L hx h0⟩
end Go.Proofs.YtccefppppedgkaaGreat
namespace Go.Proofs.YtccefppppedgkaaGreat
open Go.RowKit
section
attribute [local irreducible] AL AW RG Fin C Cd Cio AI AF AO
section
abbrev aPo (p:BV):AV:=.agg [i64 p.own.index,i64 p.own.tag,.ln (p.free.map tSl),.ln (p.old.map tOd),i64 p.spent]
abbrev fPo (p:BV):AV:=.agg [i64 p.own.index,i64 p.own.tag,.t (.lst (p.free.map tSl)),.t (.lst (p.old.map tOd)),i64 p.spent]
theorem AoI (last:Int) (p:BV) (hs:p.free.length+p.old.length≤5864062014805):Cd Tryz.prog 214 [aPo p,i64 last] (.tup [fPo (takeP last p),bo (decide ((takeP last p).own.tag≠0))]) []:=by
 have h0:=AvS last p.own.index p.own.tag p.spent p.free p.old (by omega) (by omega)
 unfold takeP fPo
 dsimp only
 have h0':=Cd.frz h0 0 rfl aB rfl;exact Cd.drop h0' rfl
theorem c8_ (p:BV) (hs:p.free.length+p.old.length≤5864062014805):Cd Tryz.prog 97 [aPo p] (fPo (leaveP p)) []:=by
 have h0:Cd Tryz.prog 97 [.agg [i64 p.own.index,i64 p.own.tag,.ln (p.free.map tSl),.ln (p.old.map tOd),i64 p.spent]] (.agg [i64 0,i64 0,.sl 0 0 p.free.length,.sl 1 0 p.old.length,i64 p.spent]) [.row 0 233 2 (p.free.map tSl),.row 0 236 3 (p.old.map tOd)]:=by
  refine ZEN Tryz.func97 Tryz.ntmps97 ?_
  repeat' (first|(refine ZAL ?_;first|refine F4 ?_|refine uA ?_)|refine uC ?_|refine ZK2 (fun hc=>?_) (fun hc=>?_)|fail)
  all_goals ((first|exact Fin.q Tryz.results97 (.cons (.agg rfl rfl ud51 rfl inf51 (us:=[_,_,_,_,_]) rfl rfl) .nil) [2,3]|refine Fin.q Tryz.results97 (.cons (.agg rfl rfl ud51 rfl inf51 (us:=[_,_,_,_,_]) rfl rfl) .nil) [2,3] (hr:=(.t ?_))|refine Gg Tryz.results97 ?_ ?_ ?_<;>repeat' (first|exact ZE1|refine ZE2 ?_ ?_|refine ZE3 ?_|exact ZE4|fail)))
 unfold leaveP fPo
 dsimp only
 have h0':=Cd.frz1 h0 0 rfl aB rfl;have h0'':=Cd.frz1 h0' 1 rfl aB rfl;exact Cd.drop h0'' rfl
theorem AkH (p:BV) (r:HA) (st:Int) (hs:p.free.length+p.old.length≤5864062014804):Cd Tryz.prog 184 [aPo p,.agg [i64 r.index,i64 r.tag],i64 st] (fPo (awayP p r st)) []:=by
 have h1:(p.old.map tOd).length=p.old.length:=fN _
 have h0:Cd Tryz.prog 184 [.agg [i64 p.own.index,i64 p.own.tag,.ln (p.free.map tSl),.ln (p.old.map tOd),i64 p.spent],.agg [i64 r.index,i64 r.tag],i64 st] (.agg [i64 p.own.index,i64 p.own.tag,.sl 0 0 p.free.length,.sl 1 0 (p.old.length+1),i64 p.spent]) [.row 0 233 2 (p.free.map tSl),.row 0 236 3 ((p.old++[(⟨⟨r.index,r.tag⟩,st⟩:CD)]).map tOd)]:=by
  refine ZEN Tryz.func184 Tryz.ntmps184 ?_
  repeat' (first|(refine ZAL ?_;first|refine F4 ?_|(refine kL 1635 rfl ?_;first|refine A_store_rp rfl rfl 51 _ _ rfl inf51 (by decide) rfl rfl aI rfl rfl rfl (ZbT rfl) (by first|exact map_set (f:=tOd) (x:=⟨⟨r.index,r.tag⟩,st⟩)|exact qN) qN ?_)|(refine kL 1583 rfl ?_;first|refine A_lit rfl rfl 49 1 _ rfl ud49 inf236 (.cons rfl .nil) (els:=[[_,_,_]]) rfl (by first|exact (rfl:_=List.map tOd [⟨⟨r.index,r.tag⟩,st⟩])|exact qN) rfl (gB rfl) (ZbT rfl) (ZbT rfl) (.push qL qN) ?_)|(refine kL 12 rfl ?_;first|refine CN rfl rfl _ _ 49 rfl ud49 inf236 rfl rfl rfl cY aA qB qB (by first|exact app_map aE|exact app_one (f:=tOd) (x:=⟨⟨r.index,r.tag⟩,st⟩) aE|exact qN) qN qS ?_|refine BD rfl rfl _ _ 49 rfl ud49 inf236 rfl rfl aA qB qB (by first|exact (rfl:_=List.map tOd [⟨⟨r.index,r.tag⟩,st⟩])|exact qN) (.push qL qN) qS ?_|refine A_append_nlsub rfl rfl _ _ 49 rfl ud49 inf236 rfl rfl rfl rfl aJ qB qB iU.symm (.push qL qN) ?_)|(refine kL 1571 rfl ?_;first|refine A_store_rp rfl rfl 49 _ _ rfl r8_ (by decide) rfl rfl aI rfl rfl rfl (ZbT rfl) (by first|exact map_set (f:=tOd) (x:=⟨⟨r.index,r.tag⟩,st⟩)|exact qN) qN ?_)|refine uA ?_)|refine uC ?_|refine ZK2 (fun hc=>?_) (fun hc=>?_)|fail)
  all_goals ((first|exact Fin.q Tryz.results184 (.cons (.agg rfl rfl ud51 rfl inf51 (us:=[_,_,_,_,_]) rfl rfl) .nil) [3,4]|refine Fin.q Tryz.results184 (.cons (.agg rfl rfl ud51 rfl inf51 (us:=[_,_,_,_,_]) rfl rfl) .nil) [3,4] (hr:=(.t ?_))|refine Fin.mkv (rs:=_) Tryz.results184 (.cons (.agg rfl rfl ud51 rfl inf51 (us:=[_,_,_,_,_]) rfl rfl) .nil) [3,4] (by decide) rfl ?_ ?_ ?_<;>repeat' (first|exact ZE1|refine ZE2 ?_ ?_|refine ZE3 ?_|exact ZE4|fail)))
 unfold awayP fPo
 dsimp only
 have h2:(p.old++[(⟨r,st⟩:CD)]).length=p.old.length+1:=by simp
 have h0':=Cd.frz1 h0 0 rfl aB rfl;have h0'':=Cd.frz1 h0' 1 rfl aB rfl;exact Cd.drop h0'' rfl
theorem AdK (g:Int) (hg:g≤9223372036854775807) (p:BV) (hs:p.free.length+p.old.length≤5864062014805):Cd Tryz.prog 187 [aPo p,i64 g] (.tup [fPo (backP p (prE g)),i64 ((p.old.length:Int)-(EZ (prE g) p.old).length)]) []:=by
 have h0:=AxH g hg p.own.index p.own.tag p.spent p.free p.old hs
 unfold backP fPo
 dsimp only
 have h0':=Cd.frz h0 0 rfl aB rfl;have h0'':=Cd.frz h0' 1 rfl aB rfl;exact Cd.drop h0'' rfl
theorem ArP (l:List Int) (hl:l.length≤1152921504606846976) (p:BV) (hs:p.free.length+p.old.length≤5864062014805):Cd Tryz.prog 191 [aPo p,.ln (l.map tU)] (.tup [fPo (backP p (prS l)),i64 ((p.old.length:Int)-(EZ (prS l) p.old).length)]) []:=by
 have h0:=AxI l hl p.own.index p.own.tag p.spent p.free p.old hs
 unfold backP fPo
 dsimp only
 have h0':=Cd.frz h0 0 rfl aB rfl;have h0'':=Cd.frz h0' 1 rfl aB rfl;exact Cd.drop h0'' rfl
theorem AaP (p:BV) (lim:Int):s9_ p.own.tag p.free.length p.old.length lim=needsP p lim:=by
 unfold s9_ needsP whyP
 cases hf:p.free<;>cases ho:p.old<;>simp<;>omega
theorem MT (p:BV) (lim:Int):Cd Tryz.prog 188 [aPo p,i64 lim] (bo (needsP p lim)) []:=by
 rw [←AaP];exact AmQ _ _ _ _ _ _
theorem AoV (p:BV):why p.own.tag p.free.length p.old.length=whyP p:=by
 unfold why whyP
 cases hf:p.free<;>cases ho:p.old<;>simp
theorem AvY (p:BV):Cd Tryz.prog 228 [aPo p] (i64 (whyP p)) []:=by
 rw [←AoV];exact AqR _ _ _ _ _
theorem TH (g:Int) (hg:0≤g∧g≤4611686018427387904):Cd Tryz.prog 163 [i64 g] (u64 (GM g)) []:=by
 unfold GM
 refine ZEN Tryz.func163 Tryz.ntmps163 ?_
 repeat' (first|(refine ZAL ?_;first|(refine kL 1481 rfl ?_;first|refine A_shl rfl rfl 46 159 _ _ rfl rfl rfl (by decide) (shl_lit (m:=2) rfl bU) ?_|refine A_bits rfl rfl .or 46 46 _ _ rfl rfl rfl rfl (or_sum 1 (M:=2) rfl (by omega) (by omega) (by omega) (by omega) (by omega) (by omega)) ?_|refine A_bits rfl rfl .or 46 46 _ _ rfl rfl rfl rfl (or_sum' 1 (M:=2) rfl (by omega) (by omega) (by omega) (by omega) (by omega) (by omega)) ?_|refine A_shl rfl rfl 46 159 _ _ rfl rfl rfl dL rfl ?_|refine A_bits rfl rfl .or 46 46 _ _ rfl rfl rfl rfl rfl ?_)|refine uA ?_)|refine uC ?_|refine ZK2 (fun hc=>?_) (fun hc=>?_)|fail)
 all_goals first|(exfalso;omega)|((first|exact A6 Tryz.results163|refine A5 Tryz.results163 ?_|refine A8 Tryz.results163 ?_ ?_ ?_<;>repeat' (first|exact ZE1|refine ZE2 ?_ ?_|refine ZE3 ?_|exact ZE4|fail)))
 all_goals rw [Int.mul_comm]
theorem AmY (w g:Int) (hg:0≤g∧g≤4611686018427387904):Cd Tryz.prog 190 [u64 w,i64 g] (bo (letsW w g)) []:=by
 have c1:=TH g hg
 unfold letsW
 refine ZEN Tryz.func190 Tryz.ntmps190 ?_
 repeat' (first|refine A7 ?_|refine uS 7 (fun hb=>?_) (fun hb=>?_)|refine ZK2 (fun hc=>?_) (fun hc=>?_)|fail)
 all_goals first|(exfalso;omega)|((first|exact A6 Tryz.results190|refine A5 Tryz.results190 ?_|refine A8 Tryz.results190 ?_ ?_ ?_<;>repeat' (first|exact ZE1|refine ZE2 ?_ ?_|refine ZE3 ?_|exact ZE4|fail)))
 all_goals simp [*]
variable {c:AB} {t:Int}
theorem j8_ (f:Okc c) (ht:0≤t∧t<c.threads):Cd Tryz.prog 171 [aCf c,i64 t] (i64 (aSeq c t)) []:=by
 have:=f.facts
 have h:=AvM c t
 rw [DX (by omega)] at h;exact h
theorem AcX (f:Okc c) (ht:0≤t∧t<c.threads):Cd Tryz.prog 173 [aCf c,i64 t] (i64 (EI c t)) []:=by
 have:=f.facts
 have h:=AkE c t
 unfold ApQ at h
 rw [DX (x:=3+c.threads) (by omega),DX (x:=t*5) (by omega),DX (by omega)] at h;exact h
theorem RU (f:Okc c) (ht:0≤t∧t<c.threads):Cd Tryz.prog 165 [aCf c,i64 t] (i64 (aHaz c t)) []:=by
 have:=f.facts
 have h:=AsC c t
 unfold AxP at h
 rw [DX (x:=c.threads*6) (by omega),DX (x:=3+c.threads*6) (by omega),DX (by omega)] at h;exact h
theorem RT (f:Okc c) (ht:0≤t∧t<c.threads):Cd Tryz.prog 162 [aCf c,i64 t] (i64 (aEpo c t)) []:=by
 have:=f.facts
 have h:=AxK c t
 unfold epL at h
 rw [DX (x:=c.threads*7) (by omega),DX (x:=3+c.threads*7) (by omega),DX (by omega)] at h;exact h
theorem GO (f:Okc c) (ht:0≤t∧t<c.threads):Cd Tryz.prog 177 [aCf c,i64 t] (i64 (aMail c t)) []:=by
 have:=f.facts
 have h:=AmC c t
 unfold AqB at h
 rw [DX (x:=c.threads*8) (by omega),DX (x:=3+c.threads*8) (by omega),DX (by omega)] at h;exact h
theorem MC (f:Okc c) (hs:c.start.length≤1152921504606846976) {i:Int} (h0:0≤i) (h1:i≤nodesL c):Cd Tryz.prog 56 [aCf c,i64 i] (i64 (aNode c i)) []:=by
 have hn:=(DQ f.ok).2
 have h:=YK c hs i
 rw [MX f.ok h0 (by omega)] at h;exact h
end
end
end Go.Proofs.YtccefppppedgkaaGreat
