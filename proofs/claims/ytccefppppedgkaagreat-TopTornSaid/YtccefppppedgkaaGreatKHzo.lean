/- Joined: XTWhatP, XTWhat, XTopX, XTopY, XTopZ, XTopLn, XTopNt, XTopTg. -/
import Derived.Test.YtccefppppedgkaaGreatKHza
set_option linter.unusedVariables false
set_option linter.unusedSimpArgs false
set_option linter.unnecessarySimpa false
set_option maxRecDepth 100000
set_option maxHeartbeats 64000000
namespace Go.Proofs.YtccefppppedgkaaGreat
open Go.RowKit
def LC (T z tot addr:Int):Int × Int × Int :=
 if addr<0∨tot≤addr then (0,0,0)
 else if addr<3 then (addr+1,0,0)
 else if addr-3<T then (4,addr-3,0)
 else if addr-3<6*T then (5,(addr-3-T)/5,(addr-3-T)%5)
 else if addr-3<7*T then (6,addr-3-6*T,0)
 else if addr-3<8*T then (7,addr-3-7*T,0)
 else if addr-3<9*T then (8,addr-3-8*T,0)
 else if (addr-3-9*T)%z=0 then (9,(addr-3-9*T)/z,0)
 else (10,(addr-3-9*T)/z,(addr-3-9*T)%z-1)
section
attribute [local irreducible] AL AW RG Fin C Cd Cio AI AF AO
section
abbrev aW (w:Int × Int × Int):AV:=.tup [i64 w.1,i64 w.2.1,i64 w.2.2]
def whatC (c:AB) (addr:Int):Int × Int × Int:=LC c.threads (1+sizeC c) (totL c) addr
variable {c:AB} {a:Int}
theorem AoU (h:a<0∨totL c≤a):whatC c a=(0,0,0):=by unfold whatC LC;rw [fR h]
theorem x7_ (h : ¬(a<0∨totL c≤a)) (h3:a<3):whatC c a=(a+1,0,0):=by unfold whatC LC;rw [fT h,fR h3]
theorem x1_ (h : ¬(a<0∨totL c≤a)) (h3:3≤a) (h4:a-3<c.threads):whatC c a=(4,a-3,0):=by unfold whatC LC;rw [fT h,fT (by omega),fR h4]
theorem x2_ (h : ¬(a<0∨totL c≤a)) (ht:1≤c.threads) (h4:c.threads≤a-3) (h5:a-3<6*c.threads):whatC c a=(5,(a-3-c.threads)/5,(a-3-c.threads)%5):=by unfold whatC LC;rw [fT h,fT (by omega),fT (by omega),fR h5]
theorem x3_ (h : ¬(a<0∨totL c≤a)) (ht:1≤c.threads) (h5:6*c.threads≤a-3) (h6:a-3<7*c.threads):whatC c a=(6,a-3-6*c.threads,0):=by unfold whatC LC;rw [fT h,fT (by omega),fT (by omega),fT (by omega),fR h6]
theorem x4_ (h : ¬(a<0∨totL c≤a)) (ht:1≤c.threads) (h5:7*c.threads≤a-3) (h6:a-3<8*c.threads):whatC c a=(7,a-3-7*c.threads,0):=by unfold whatC LC;rw [fT h,fT (by omega),fT (by omega),fT (by omega),fT (by omega),fR h6]
theorem x5_ (h : ¬(a<0∨totL c≤a)) (ht:1≤c.threads) (h5:8*c.threads≤a-3) (h6:a-3<9*c.threads):whatC c a=(8,a-3-8*c.threads,0):=by unfold whatC LC;rw [fT h,fT (by omega),fT (by omega),fT (by omega),fT (by omega),fT (by omega),fR h6]
theorem x6_ (h : ¬(a<0∨totL c≤a)) (ht:1≤c.threads) (h5:9*c.threads≤a-3) (h6:(a-3-9*c.threads)%(1+sizeC c)=0):whatC c a=(9,(a-3-9*c.threads)/(1+sizeC c),0):=by unfold whatC LC;rw [fT h,fT (by omega),fT (by omega),fT (by omega),fT (by omega),fT (by omega),fT (by omega),fR h6]
theorem j_ (h : ¬(a<0∨totL c≤a)) (ht:1≤c.threads) (h5:9*c.threads≤a-3) (h6 : ¬(a-3-9*c.threads)%(1+sizeC c)=0):whatC c a=(10,(a-3-9*c.threads)/(1+sizeC c),(a-3-9*c.threads)%(1+sizeC c)-1):=by unfold whatC LC;rw [fT h,fT (by omega),fT (by omega),fT (by omega),fT (by omega),fT (by omega),fT (by omega),fT h6]
theorem AjK (h : ¬(a<0∨totL c≤a)):1≤c.threads∧c.threads≤64∧totL c≤1700000∧0≤sizeC c∧sizeC c≤393:=by
 cases hk:AZ c
 ·have:totL c=0:=by unfold totL;rw [hk];rfl
  omega
 ·have S:=AJ hk
  obtain ⟨_,e,b1,b2⟩:=UK hk
  have t0:=S.t0
  have t1:=S.t1
  have z:=GW c
  omega
theorem AnV (c:AB) (hs:c.start.length≤1152921504606846976) (a:Int) (ha : -9223372036854775808≤a∧a≤9223372036854775807):Cd Tryz.prog 36 [aCf c,i64 a] (aW (whatC c a)) []:=by
 have c1:=YX c hs
 have c2:=RE c hs
 by_cases h:a<0∨totL c≤a
 ·rw [AoU h]
  by_cases h0:a<0
  all_goals
   refine Ay ?_
   repeat' (first|refine Be ?_|refine uS 14 (fun hb=>?_) (fun hb=>?_)|refine ZK2 (fun hc=>?_) (fun hc=>?_)|fail)
   all_goals first|(exfalso;omega)|((first|exact Fin.q Tryz.results36 (.cons (.tmp rfl) (.cons (.tmp rfl) (.cons (.tmp rfl) .nil))) []|refine Fin.q Tryz.results36 (.cons (.tmp rfl) (.cons (.tmp rfl) (.cons (.tmp rfl) .nil))) [] (hr:=(.tupL (.cons (.t ?_) (.cons (.t ?_) (.cons (.t ?_) .nil)))))|refine Fin.mkv (rs:=_) Tryz.results36 (.cons (.tmp rfl) (.cons (.tmp rfl) (.cons (.tmp rfl) .nil))) [] (by decide) rfl ?_ ?_ ?_<;>repeat' (first|exact ZE1|refine ZE2 ?_ ?_|refine ZE3 ?_|exact ZE4|fail)))
 ·obtain ⟨t0,t1,b1,z0,z1⟩:=AjK h
  have hX:a<3∨(3≤a∧a-3<c.threads)∨(c.threads≤a-3∧a-3<6*c.threads)∨(6*c.threads≤a-3∧a-3<7*c.threads)∨(7*c.threads≤a-3∧a-3<8*c.threads)∨(8*c.threads≤a-3∧a-3<9*c.threads)∨(9*c.threads≤a-3∧(a-3-9*c.threads)%(1+sizeC c)=0)∨(9*c.threads≤a-3 ∧ ¬(a-3-9*c.threads)%(1+sizeC c)=0):=by
   by_cases g:(a-3-9*c.threads)%(1+sizeC c)=0<;>omega
  rcases hX with x|⟨x,y⟩|⟨x,y⟩|⟨x,y⟩|⟨x,y⟩|⟨x,y⟩|⟨x,y⟩|⟨x,y⟩
  ·rw [x7_ h x]
   refine Ay ?_
   repeat' (first|refine Be ?_|refine uS 14 (fun hb=>?_) (fun hb=>?_)|refine ZK2 (fun hc=>?_) (fun hc=>?_)|fail)
   all_goals exact B1 Tryz.results36
  ·rw [x1_ h x y]
   refine Ay ?_
   repeat' (first|refine Be ?_|refine uS 14 (fun hb=>?_) (fun hb=>?_)|refine ZK2 (fun hc=>?_) (fun hc=>?_)|fail)
   all_goals exact B1 Tryz.results36
  ·rw [x2_ h t0 x y]
   refine Ay ?_
   repeat' (first|refine Be ?_|refine uS 14 (fun hb=>?_) (fun hb=>?_)|refine ZK2 (fun hc=>?_) (fun hc=>?_)|fail)
   all_goals exact B1 Tryz.results36
  ·rw [x3_ h t0 x y]
   refine Ay ?_
   repeat' (first|refine Be ?_|refine uS 14 (fun hb=>?_) (fun hb=>?_)|refine ZK2 (fun hc=>?_) (fun hc=>?_)|fail)
   all_goals exact B1 Tryz.results36
  ·rw [x4_ h t0 x y]
   refine Ay ?_
   repeat' (first|refine Be ?_|refine uS 14 (fun hb=>?_) (fun hb=>?_)|refine ZK2 (fun hc=>?_) (fun hc=>?_)|fail)
   all_goals exact B1 Tryz.results36
  ·rw [x5_ h t0 x y]
   refine Ay ?_
   repeat' (first|refine Be ?_|refine uS 14 (fun hb=>?_) (fun hb=>?_)|refine ZK2 (fun hc=>?_) (fun hc=>?_)|fail)
   all_goals exact B1 Tryz.results36
  ·rw [x6_ h t0 x y]
   generalize sizeC c=z at *
   refine Ay ?_
   repeat' (first|refine Gx ?_|refine uS 14 (fun hb=>?_) (fun hb=>?_)|refine ZK2 (fun hc=>?_) (fun hc=>?_)|fail)
   all_goals exact B1 Tryz.results36
  ·rw [j_ h t0 x y]
   generalize sizeC c=z at *
   have hr:=Int.emod_nonneg (a-3-9*c.threads) (b:=1+z) (by omega)
   have hr2:=Int.emod_lt_of_pos (a-3-9*c.threads) (b:=1+z) (by omega)
   refine Ay ?_
   repeat' (first|refine Gx ?_|refine uS 14 (fun hb=>?_) (fun hb=>?_)|refine ZK2 (fun hc=>?_) (fun hc=>?_)|fail)
   all_goals exact B1 Tryz.results36
end
end
end Go.Proofs.YtccefppppedgkaaGreat
namespace Go.Proofs.YtccefppppedgkaaGreat
def Bg (c:AB) (l l1:List AC):Prop:=l1=l ∨ ∃(t:Nat) (q:AU),t<thrN c∧(l.getD t AK).pc=0∧BR q=true∧(l.getD t AK).seq<c.seqs∧l1=l.set t (begun (l.getD t AK) q)
def Sp1 (c:AB) (m:Mm) (l1:List AC) (u:List CP) (m':Mm) (l':List AC) (u':List CP):Prop :=
 (m'=m∧l'=l1∧u'=u) ∨ ∃(t:Nat) (z:Int),t<thrN c∧(l1.getD t AK).pc≠0∧m'=(stepT c t (l1.getD t AK) m).m∧l'=l1.set t (stepT c t (l1.getD t AK) m).x∧u'=if (stepT c t (l1.getD t AK) m).won then u++[⟨z,t,(stepT c t (l1.getD t AK) m).ops⟩] else u
theorem AeF (c:AB) (s:Mc) (e:DB) : ∃l1,Bg c s.tasks l1∧Sp1 c s.m l1 s.turns (doM c s e).m (doM c s e).tasks (doM c s e).turns:=by
 unfold doM
 split
 ·rename_i ht
  have htl:e.thread.toNat<thrN c:=by unfold thrN;omega
  generalize e.thread.toNat=t at *
  have hgo:(goesM c (AP s) t).m=s.m∧Bg c s.tasks (goesM c (AP s) t).tasks∧(goesM c (AP s) t).turns=s.turns:=by
   unfold goesM
   split
   ·exact ⟨rfl,.inl rfl,rfl⟩
   ·split
    ·split
     ·rename_i s' hs'
      obtain ⟨h1,h2,h3,rfl⟩:=CK hs'
      exact ⟨rfl,.inr ⟨t,_,htl,h1,h2,h3,rfl⟩,rfl⟩
     ·exact ⟨rfl,.inl rfl,rfl⟩
    ·exact ⟨rfl,.inl rfl,rfl⟩
  split
  ·unfold pickM
   dsimp only
   generalize goesM c (AP s) t=s1 at *
   obtain ⟨g1,g2,g3⟩:=hgo
   split
   ·exact ⟨_,g2,.inl ⟨g1,rfl,g3⟩⟩
   ·rename_i hpc
    have hc:(AX s1 t).m=s1.m∧(AX s1 t).tasks=s1.tasks∧(AX s1 t).turns=s1.turns:=by unfold AX;split<;>exact ⟨rfl,rfl,rfl⟩
    have htk:tkM (AX s1 t) t=s1.tasks.getD t AK:=by unfold tkM;rw [hc.2.1]
    refine ⟨_,g2,.inr ⟨t,(AX s1 t).time,htl,hpc,?_⟩⟩
    unfold LB
    dsimp only
    rw [htk,hc.1,hc.2.1, ←g1, ←g3]
    generalize hO:stepT c t (s1.tasks.getD t AK) s1.m=o at *
    have hb : ∀q:Mc,(FQ q t o).m=q.m∧(FQ q t o).tasks=q.tasks∧(FQ q t o).turns=q.turns:=fun q=>by unfold FQ;split<;>exact ⟨rfl,rfl,rfl⟩
    have hn : ∀q:Mc,(noteM q t o).m=q.m∧(noteM q t o).tasks=q.tasks∧(noteM q t o).turns=q.turns:=fun q=>by unfold noteM;split<;>exact ⟨rfl,rfl,rfl⟩
    rw [(hb _).1,(hb _).2.1,(hb _).2.2,(hn _).1,(hn _).2.1,(hn _).2.2]
    unfold wonM
    cases hw:o.won
    ·simp only [iM,jL]
     exact ⟨trivial,trivial,hc.2.2⟩
    ·simp only [jU]
     exact ⟨trivial,trivial,by rw [hc.2.2]⟩
  ·split
   ·unfold callM
    split
    ·split
     ·rename_i s' hs'
      obtain ⟨h1,h2,h3,rfl⟩:=CK hs'
      exact ⟨_,.inr ⟨t,_,htl,h1,h2,h3,rfl⟩,.inl ⟨rfl,rfl,rfl⟩⟩
     ·exact ⟨_,.inl rfl,.inl ⟨rfl,rfl,rfl⟩⟩
    ·exact ⟨_,.inl rfl,.inl ⟨rfl,rfl,rfl⟩⟩
   ·split
    ·unfold pumpM
     split
     ·exact ⟨_,.inl rfl,.inl ⟨rfl,rfl,rfl⟩⟩
     ·split
      ·exact ⟨_,.inl rfl,.inl ⟨rfl,rfl,rfl⟩⟩
      ·exact ⟨_,.inl rfl,.inl ⟨rfl,rfl,rfl⟩⟩
    ·exact ⟨_,.inl rfl,.inl ⟨rfl,rfl,rfl⟩⟩
 ·exact ⟨_,.inl rfl,.inl ⟨rfl,rfl,rfl⟩⟩
theorem EY {c:AB} {l:List AC} (hl:(l.length:Int)=c.threads) {t:Nat} (ht:t<thrN c):l[t]? = some (l.getD t AK):=by
 have hlt:t<l.length:=by unfold thrN at ht;omega
 rw [fQ,ZgE hlt];rfl
theorem RV {c:AB} (f:Okc c) {S:List Nm} {H:Nat→Int} {m:Mm} {l l1:List AC} {u:List CP} (A:All c S H m l u) (b:Bg c l l1):All c S H m l1 u:=by
 rcases b with rfl|⟨t,q,ht,hp,hq,hs,rfl⟩
 ·exact A
 ·exact GA f A (EY A.inv.ll ht) hp hq hs
theorem AxE {c:AB} {l l1:List AC} (b:Bg c l l1) (hl:(l.length:Int)=c.threads) {t:Nat} {x:AC} (h:l[t]? = some x) (h0:x.pc≠0):l1[t]? = some x:=by
 rcases b with rfl|⟨u,q,hu,hp,_,_,rfl⟩
 ·exact h
 ·have hne:u≠t:=fun e=>by
   subst e
   rw [EY hl hu] at h
   cases h
   exact h0 hp
  rw [jJ hne];exact h
theorem ArV (c:AB) (s:Mc) (e:DB) (f:Okc c) {S:List Nm} {H:Nat→Int} (A:All c S H s.m s.tasks s.turns):(doM c s e).m.log.length≤s.m.log.length+1:=by
 obtain ⟨l1,b,p⟩:=AeF c s e
 rcases p with ⟨h, -⟩|⟨t,z,ht,h0,h, -⟩
 ·rw [h];exact kI _
 ·have A1:=RV f A b
  have hx:=EY A1.inv.ll ht
  obtain ⟨a,h1, -⟩:=EE (t:=t) (m:=s.m) (A1.inv.loc _ _ hx) h0
  rw [h,h1,fP];exact fV _
theorem WZ {c:AB} (f:Okc c) {i k:Int} (h0:0≤i) (h1:i<nodesL c) (k0:0≤k) (k1:k≤sizeC c):9≤(whatC c (aNode c i+k)).1∧(whatC c (aNode c i+k)).2.1=i:=by
 have hn:=CI f h0 h1 k0 k1
 have hf:=f.facts
 have hb : ¬(aNode c i+k<0∨totL c≤aNode c i+k):=by omega
 have e:aNode c i+k-3-9*c.threads=k+(1+sizeC c)*i:=by unfold aNode;rw [Int.mul_comm i];omega
 have e1:(aNode c i+k-3-9*c.threads)/(1+sizeC c)=i:=by
  rw [e,Int.add_mul_ediv_left _ _ (by omega),Int.ediv_eq_zero_of_lt k0 (by omega),Int.zero_add]
 by_cases g:(aNode c i+k-3-9*c.threads)%(1+sizeC c)=0
 ·rw [x6_ hb hf.1 (by omega) g]
  exact ⟨gL _,e1⟩
 ·rw [j_ hb hf.1 (by omega) g]
  exact ⟨(by decide:(9:Int)≤10),e1⟩
theorem AjL {c:AB} (f:Okc c) {a:Int} (h0:0≤a) (h1:a<3+c.threads*9):(whatC c a).1<9:=by
 have hf:=f.facts
 have ht:=f.tot
 have hz:0≤nodesL c*(1+sizeC c):=jZ (by omega) (by omega)
 have hb : ¬(a<0∨totL c≤a):=by omega
 by_cases g3:a<3
 ·rw [x7_ hb g3];dsimp only;omega
 by_cases g4:a-3<c.threads
 ·rw [x1_ hb (by omega) g4];exact (by decide:(4:Int)<9)
 by_cases g5:a-3<6*c.threads
 ·rw [x2_ hb hf.1 (by omega) g5];exact (by decide:(5:Int)<9)
 by_cases g6:a-3<7*c.threads
 ·rw [x3_ hb hf.1 (by omega) g6];exact (by decide:(6:Int)<9)
 by_cases g7:a-3<8*c.threads
 ·rw [x4_ hb hf.1 (by omega) g7];exact (by decide:(7:Int)<9)
 ·rw [x5_ hb hf.1 (by omega) (by omega)];exact (by decide:(8:Int)<9)
theorem AjY {c:AB} {t:Nat} {x:AC} {m:Mm} (k:Ctx c t x m) {a:Int} (w:AA c t x a) (h9:9≤(whatC c a).1):(x.pc=13∨x.pc=14)∧(whatC c a).2.1=x.pool.own.index:=by
 have f:=k.f
 have hf:=f.facts
 have ht:=k.ht
 have lo : ∀ {b:Int},0≤b→b<3+c.threads*9→9≤(whatC c b).1→False:=fun h0 h1 h2=>by
  have:=AjL f h0 h1;omega
 cases w with
 |root hp=>exact absurd h9 fun h=>lo (by decide) (by omega) h
 |glob hp=>exact absurd h9 fun h=>lo (by decide) (by omega) h
 |phase hp=>exact absurd h9 fun h=>lo (by decide) (by omega) h
 |epo hp=>exact absurd h9 fun h=>lo bZ bZ h
 |haz hp=>exact absurd h9 fun h=>lo bY bY h
 |arg hp =>
  have:=k.h.j17 hp
  exact absurd h9 fun h=>lo (by unfold EI;omega) (by unfold EI;omega) h
 |seq hp=>exact absurd h9 fun h=>lo eI eI h
 |mail hp =>
  have:=k.h.i12 hp
  exact absurd h9 fun h=>lo bO bO h
 |mine hp=>exact absurd h9 fun h=>lo bO bO h
 |tag hp =>
  have ho:=k.ho (k.h.own_at (by omega) (by omega))
  have:=WZ f ho.1 ho.2 (gL 0) (by omega)
  rw [nD] at this
  exact ⟨.inl hp,this.2⟩
 |recd hp =>
  have ho:=k.ho (k.h.own_at (by omega) (by omega))
  have hi:=k.h.i14 hp
  have:=WZ f ho.1 ho.2 (k:=1+x.i) (by omega) (by omega)
  rw [←mI] at this
  exact ⟨.inr hp,this.2⟩
def AqY (c:AB) (l:List AC) (n:Nat) (m':Mm):Prop:=∀(t:Nat) x,l[t]? = some x→Vdg x→ld m' (aNode c x.base.index)=x.base.tag ∧ ∀a∈m'.log.drop n,a.thread≠(t:Int)→9≤(whatC c a.addr).1→(whatC c a.addr).2.1=x.base.index→a.kind=1
theorem AfX {c:AB} (f:Okc c) {s:Mc} (h : ∃S H,All c S H s.m s.tasks s.turns) (e:DB):AqY c s.tasks s.m.log.length (doM c s e).m:=by
 intro t x hx hv
 obtain ⟨S,H,A⟩:=h
 obtain ⟨l1,b,p⟩:=AeF c s e
 have A1:=RV f A b
 have hv0:x.pc≠0:=by unfold Vdg at hv;omega
 have hx1:=AxE b A.inv.ll hx hv0
 have I:=A1.inv
 obtain ⟨r,hr⟩:=(I.baS t x hx1 (.inl (Rdg.of_v hv))).1
 have hb:=(I.baS t x hx1 (.inl (Rdg.of_v hv))).2
 have hh:=(I.viv t x hx1 hv).held
 have hc:=I.cont _ hr hh
 have hi:rdI (wdF x.base)=x.base.index:=(congrArg HA.index hb).symm
 have ht:rdT (wdF x.base)=x.base.tag:=(congrArg HA.tag hb).symm
 rcases p with ⟨hm, -⟩|⟨u,z,hu,h0,hm, -⟩
 ·rw [hm]
  refine ⟨?_,fun a ha=>by rw [mQ] at ha;cases ha⟩
  have:=hc.1
  rw [hi,ht] at this;exact this
 ·have hy:=EY I.ll hu
  generalize l1.getD u AK=y at *
  rw [hm]
  have k:=I.ctx f hy h0
  refine ⟨?_,fun a ha hne h9 hof=>?_⟩
  ·have:=(OC I f hy h0 hr hh hc).1
   rw [hi,ht] at this;exact this
  ·obtain ⟨a0,h1,h2,h3, -⟩:=EE (t:=u) (m:=s.m) k.h h0
   rw [h1,mZ] at ha
   rw [iN.1 ha] at h9 hof hne ⊢
   rcases h3 with h3|⟨h3, -⟩
   ·exact h3
   ·obtain ⟨g1,g2⟩:=AjY k h3 h9
    exact absurd (hi.trans (hof.symm.trans g2)) (r6_ I hy (w:=(wdF x.base,r)) (k.h.own_at (by omega) (by omega)) (QT (by omega) (by omega)) hh)
end Go.Proofs.YtccefppppedgkaaGreat
namespace Go.Proofs.YtccefppppedgkaaGreat
theorem AuB {c:AB} (f:Okc c) {S:List Nm} {H:Nat→Int} {s:Mc} (A:All c S H s.m s.tasks s.turns):AnK c s=IB c s.turns s.turns.length:=by
 have I:=A.inv
 have hl:=A.chn.last
 obtain ⟨h1,h2,h3,h4,h5⟩:=I.sok _ hl
 have hc:=(I.cont _ hl (.inl rfl)).2
 dsimp only at h3 h5 hc
 have hf:=f.facts
 have hn:=CI f h3.1 h3.2 (k:=sizeC c) (by omega) (gL _)
 have hn0:=CI f h3.1 h3.2 (k:=0) (by omega) (by omega)
 have hw:=I.wl
 generalize hr:IB c s.turns s.turns.length=r at *
 unfold AnK
 refine iO fun i=>?_
 by_cases hi:i<r.length
 ·have h6:=hc i hi
  generalize hA:aNode c (rdI (ld s.m 0))=A at *
  have e6:ld s.m (A+1+(i:Int))=s.m.w.getD ((A+1).toNat+i) 0:=by
   unfold ld
   rw [show (A+1+(i:Int)).toNat=(A+1).toNat+i by omega]
  rw [e6] at h6
  have hlt:(A+1).toNat+i<s.m.w.length:=by omega
  rw [List.getElem?_take_of_lt (by omega),gK,ZgE hi,ZgE hlt]
  rw [fQ,ZgE hlt,fQ,ZgE hi] at h6
  exact congrArg some h6
 ·rw [gS (by rw [fY,gJ];omega),gS (by omega)]
end Go.Proofs.YtccefppppedgkaaGreat
namespace Go.Proofs.YtccefppppedgkaaGreat
def okP (p:FO):Prop:=p.outs.length≤8∧0≤p.at_∧p.at_≤8
structure Ms (c:AB) (s:Mc) (N U T B:Nat):Prop where
 pl:s.pumps.length=thrN c
 sl:s.steps.length=thrN c
 ml:s.most.length=thrN c
 nl:s.notes.length≤N
 ul:s.turns.length≤U
 tm:0≤s.time∧s.time≤T
 st : ∀x∈s.steps,0≤x∧x≤(B:Int)
 mo : ∀x∈s.most,0≤x∧x≤(B:Int)
 rq : ∀x∈s.tasks,x.req.cases.length≤3
 pu : ∀p∈s.pumps,okP p
theorem JC {α:Type} {P:α→Prop} {l:List α} {i:Nat} {a:α} (h : ∀x∈l,P x) (ha:P a) : ∀x∈l.set i a,P x:=fun x hx=>by
 rcases iX hx with h'|h'
 ·exact h x h'
 ·rw [h'];exact ha
theorem MI {q:AU} (h:BR q=true):q.cases.length≤3:=by
 unfold BR at h
 simp only [gG,gM] at h
 exact h.1.2
theorem r4_ {p:FO} (h:okP p) (r:Rst):okP (gotP p r):=by
 obtain ⟨h1,h2,h3⟩:=h
 unfold gotP
 dsimp only
 refine ⟨h1,?_⟩
 show 0≤(got p.on p.shut p.over p.at_ p.value p.outs.length r.code r.value).at_∧(got p.on p.shut p.over p.at_ p.value p.outs.length r.code r.value).at_≤8
 unfold got
 split
 ·exact ⟨h2,h3⟩
 ·rename_i hno
  have hno':CU p.on p.shut p.over p.at_ p.outs.length=false:=by
   cases e:CU p.on p.shut p.over p.at_ p.outs.length
   ·rfl
   ·exact absurd (.inl e) hno
  obtain ⟨-, -,n1,n2,n3⟩:=e3_ hno'
  split
  ·exact ⟨h2,h3⟩
  ·split
   ·rename_i hs
    have:=n3 hs
    dsimp only;omega
   ·split
    ·dsimp only
     split<;>omega
    ·split
     ·exact ⟨(by decide:(0:Int)≤1),(by decide:(1:Int)≤8)⟩
     ·exact ⟨h2,h3⟩
variable {c:AB} {N U T B t:Nat}
theorem e1_ {s s':Mc} {q:AU} (h:Ms c s N U T B) (e:GC c s t q=some s'):Ms c s' (N+1) U T B:=by
 obtain ⟨h1,h2,h3,rfl⟩:=CK e
 exact ⟨h.pl,by rw [iS];exact h.sl,h.ml,by rw [fP];have:=h.nl;simp only [gT];omega,h.ul,h.tm,JC h.st ⟨gL _,by omega⟩,h.mo,JC h.rq (MI h2),h.pu⟩
variable {s:Mc}
theorem Ms.mono {N U T B N' U' T' B':Nat} (h:Ms c s N U T B) (a:N≤N') (b:U≤U') (d:T≤T') (e:B≤B'):Ms c s N' U' T' B' :=
 ⟨h.pl,h.sl,h.ml,jA h.nl a,jA h.ul b,by have:=h.tm;omega,fun x hx=>by have:=h.st x hx;omega,fun x hx=>by have:=h.mo x hx;omega,h.rq,h.pu⟩
theorem KK (h:Ms c s N U T B):Ms c (AP s) N U (T+1) B :=
 ⟨h.pl,h.sl,h.ml,h.nl,h.ul,by have:=h.tm;show 0≤s.time+1∧s.time+1≤_;omega,h.st,h.mo,h.rq,h.pu⟩
theorem TA (h:Ms c s N U T B) {p:FO} (hp:okP p):Ms c { s with pumps:=s.pumps.set t p } N U T B :=
 ⟨by rw [iS];exact h.pl,h.sl,h.ml,h.nl,h.ul,h.tm,h.st,h.mo,h.rq,JC h.pu hp⟩
theorem AhM (h:Ms c s N U T B) (t:Nat):okP (puM s t):=by
 unfold puM
 rw [fQ]
 cases e:s.pumps[t]? with
 |none=>exact ⟨(by decide:0≤8),(by decide:(0:Int)≤0),(by decide:(0:Int)≤8)⟩
 |some p=>exact h.pu p (fO e)
theorem YG (h:Ms c s N U T B):Ms c (goesM c s t) (N+1) U T B:=by
 have hm:=h.mono (kI N) (fV _) (fV _) (fV _)
 unfold goesM
 split
 ·exact hm
 ·split
  ·split
   ·rename_i e;exact e1_ h e
   ·exact TA hm (r4_ (AhM h t) _)
  ·exact hm
theorem AeR {l:List Int} (h : ∀x∈l,0≤x∧x≤(B:Int)) (t:Nat):0≤l.getD t 0∧l.getD t 0≤(B:Int):=by
 rw [fQ]
 cases e:l[t]? with
 |none=>exact ⟨gL _,by show (0:Int)≤_;omega⟩
 |some x=>exact h x (fO e)
theorem AgP (h:Ms c s N U T B):Ms c (AX s t) N U T (B+1):=by
 have hm:=h.mono (fV N) (fV _) (fV _) (kI B)
 unfold AX
 split
 ·exact hm
 ·have h1:=AeR h.st t
  have h2:=AeR h.mo t
  exact ⟨h.pl,by rw [iS];exact h.sl,by rw [iS];exact h.ml,h.nl,h.ul,h.tm,JC hm.st (by omega),JC hm.mo (by omega),h.rq,h.pu⟩
theorem AmN (h:Ms c s N U T B) (hl:AQ c (tkM s t)) (ht:t<s.tasks.length):Ms c (LB c s t) (N+1) (U+1) T B:=by
 have hq:(stepT c t (tkM s t) s.m).x.req.cases.length≤3:=by
  rw [ID hl]
  have e:s.tasks[t]? = some (tkM s t):=by unfold tkM;rw [fQ,ZgE ht];rfl
  exact h.rq _ (fO e)
 unfold LB
 dsimp only
 generalize stepT c t (tkM s t) s.m=o at *
 have h1:Ms c (wonM { s with m:=o.m,tasks:=s.tasks.set t o.x } t o) N (U+1) T B:=by
  unfold wonM
  split
  ·exact ⟨h.pl,h.sl,h.ml,h.nl,by rw [fP];have:=h.ul;simp only [gT];omega,h.tm,h.st,h.mo,JC h.rq hq,h.pu⟩
  ·exact ⟨h.pl,h.sl,h.ml,h.nl,Nat.le_succ_of_le h.ul,h.tm,h.st,h.mo,JC h.rq hq,h.pu⟩
 generalize wonM { s with m:=o.m,tasks:=s.tasks.set t o.x } t o=s1 at *
 have h2:Ms c (noteM s1 t o) (N+1) (U+1) T B:=by
  unfold noteM
  split
  ·exact h1.mono (kI N) (fV _) (fV _) (fV _)
  ·exact ⟨h1.pl,h1.sl,h1.ml,by rw [fP];have:=h1.nl;simp only [gT];omega,h1.ul,h1.tm,h1.st,h1.mo,h1.rq,h1.pu⟩
 generalize noteM s1 t o=s2 at *
 unfold FQ
 split
 ·exact TA h2 (r4_ (AhM h2 t) _)
 ·exact h2
theorem AmL {q:AU} (h:Ms c s N U T B):Ms c (callM c s t q) (N+2) U (T+1) B:=by
 unfold callM
 split
 ·split
  ·rename_i e
   exact (e1_ (KK h) e).mono (kI _) (fV _) (fV _) (fV _)
  ·have k:=KK h
   exact ⟨k.pl,k.sl,k.ml,by rw [fP];have:=h.nl;simp only [gF,gI];omega,k.ul,k.tm,k.st,k.mo,k.rq,k.pu⟩
 ·exact h.mono (by omega) (fV _) (by omega) (fV _)
theorem AmM {inn:Int} {outs:List Int} (h:Ms c s N U T B):Ms c (pumpM c s t inn outs) N U (T+1) B:=by
 have hm:=h.mono (fV N) (fV U) (kI T) (fV B)
 unfold pumpM
 split
 ·exact hm
 ·rename_i p hp
  split
  ·refine TA (KK h) ?_
   unfold ZC at hp
   split at hp
   ·rename_i hs
    cases hp
    exact ⟨hs.2.2.1,(by decide:(0:Int)≤0),(by decide:(0:Int)≤8)⟩
   ·cases hp
  ·exact hm
theorem AtI (c:AB):Ms c (DC c) 0 0 0 0:=by
 refine ⟨iV,iV,iV,fV _,fV _,⟨gL _,gL _⟩,fun x hx=>?_,fun x hx=>?_,fun x hx=>?_,fun p hp=>?_⟩
 ·rw [jD hx];exact ⟨gL _,gL _⟩
 ·rw [jD hx];exact ⟨gL _,gL _⟩
 ·obtain ⟨t,_,rfl⟩:=iW.1 hx
  exact fX _
 ·rw [jD hp];exact ⟨(by decide:0≤8),(by decide:(0:Int)≤0),(by decide:(0:Int)≤8)⟩
structure Mq (c:AB) (s:Mc) (k:Nat):Prop where
 kn:US c s.m s.tasks s.turns
 ms:Ms c s (2*k) k k k
 ll:s.m.log.length≤k
theorem AgO (f:Okc c):Mq c (DC c) 0:=⟨s2_ f,AtI c,fV _⟩
theorem BaF (f:Okc c) {k:Nat} (h:Mq c s k) (e:DB):Mq c (doM c s e) (k+1):=by
 obtain ⟨S,H,A,L⟩:=h.kn
 refine ⟨AsZ f h.kn e,?_,jA (ArV c s e f A) (Nat.succ_le_succ h.ll)⟩
 have hms:=h.ms
 have hm:Ms c s (2*(k+1)) (k+1) (k+1) (k+1):=hms.mono (by omega) (by omega) (by omega) (by omega)
 unfold doM
 split
 ·rename_i ht
  have htl:e.thread.toNat<thrN c:=by unfold thrN;omega
  generalize e.thread.toNat=t at *
  split
  ·unfold pickM
   dsimp only
   have g:=YG (t:=t) (KK hms)
   have gb:Bg c s.tasks (goesM c (AP s) t).tasks∧(goesM c (AP s) t).m=s.m∧(goesM c (AP s) t).turns=s.turns:=by
    unfold goesM
    split
    ·exact ⟨.inl rfl,rfl,rfl⟩
    ·split
     ·split
      ·rename_i s' hs'
       obtain ⟨h1,h2,h3,rfl⟩:=CK hs'
       exact ⟨.inr ⟨t,_,htl,h1,h2,h3,rfl⟩,rfl,rfl⟩
      ·exact ⟨.inl rfl,rfl,rfl⟩
     ·exact ⟨.inl rfl,rfl,rfl⟩
   generalize goesM c (AP s) t=s1 at *
   split
   ·exact g.mono (by omega) (by omega) (by omega) (by omega)
   ·rename_i hpc
    have A1:=RV f A gb.1
    have hx:=EY A1.inv.ll htl
    have hc:=AgP (t:=t) g
    have e1:tkM (AX s1 t) t=s1.tasks.getD t AK:=by unfold AX tkM;split<;>rfl
    have e2:(AX s1 t).tasks=s1.tasks:=by unfold AX;split<;>rfl
    refine (AmN hc ?_ ?_).mono (by omega) (by omega) (by omega) (by omega)
    ·rw [e1];exact A1.inv.loc t _ hx
    ·rw [e2];exact (iJ.1 hx).1
  ·split
   ·exact (AmL hms).mono (by omega) (by omega) (by omega) (by omega)
   ·split
    ·exact (AmM hms).mono (by omega) (by omega) (by omega) (by omega)
    ·exact hm
 ·exact hm
end Go.Proofs.YtccefppppedgkaaGreat
namespace Go.Proofs.YtccefppppedgkaaGreat
structure LnT (B:Nat) (x:AC):Prop where
 bf:x.buf.length≤B
 nx:x.nxt.length≤B
 ar:x.args.length≤B+5
 se:x.seen.length≤B
variable {x:AC}
theorem LnT.mono {A B:Nat} (h:LnT A x) (e:A≤B):LnT B x:=⟨jA h.bf e,jA h.nx e,jA h.ar (by omega),jA h.se e⟩
variable {B:Nat} {c:AB}
theorem s4_ (h:LnT B x):LnT B (takeT c x):=by
 obtain ⟨p,sc,r,e, -⟩:=IE c x
 rw [e];exact ⟨h.bf,h.nx,h.ar,h.se⟩
theorem YC (h:LnT B x):LnT B (failT c x):=by
 obtain ⟨p,e, -⟩:=HP c x
 rw [e];exact ⟨h.bf,h.nx,h.ar,h.se⟩
theorem IV (h:LnT B x):LnT B (nextSeqT c x):=by
 obtain ⟨i,tr,p,e, -⟩:=JX c x
 rw [e];exact ⟨h.bf,h.nx,h.ar,h.se⟩
theorem QA {B t:Nat} (h:LnT B x):LnT B (nextMailT c t x):=by
 obtain ⟨i,p,f,n,e,hp⟩:=FW c t x
 rw [e]
 rcases hp with ⟨_,_,_,_,rfl⟩|⟨_,_,_,_,rfl⟩
 ·exact ⟨h.bf,h.nx,h.ar,h.se⟩
 ·exact ⟨h.bf,by show (allO c x.buf (HG t x)).length≤B;rw [ZS];exact h.bf,h.ar,h.se⟩
theorem LI (h:LnT B x):LnT B (scannedT c x):=by
 rcases EQ c x with ⟨_,e⟩|⟨_,e⟩
 ·rw [e];exact s4_ h
 ·rw [e];exact ⟨h.bf,h.nx,h.ar,h.se⟩
theorem d_ {m:Mm} (h:LnT B x):LnT B (ownedT c x m).x:=by
 rcases EP c x m with ⟨_,e⟩|⟨_,_,e⟩|⟨_,_,e⟩
 ·rw [e];exact ⟨fX _,fX _,fX _,fX _⟩
 ·rw [e];exact ⟨h.bf,h.nx,h.ar,h.se⟩
 ·rw [e];exact ⟨h.bf,h.nx,h.ar,h.se⟩
theorem AlY {t B:Nat} {m:Mm} (h:AQ c x) (r:LnT B x):LnT (B+1) (stepT c t x m).x:=by
 have k:=r.mono (kI B)
 have h1:=r.bf
 have h2:=r.ar
 have h3:=r.se
 obtain ⟨q,p,hk2, -⟩:=BA h
 rw [AE p]
 have hz:=AS hk2
 repeat' (rcases hz with rfl|hz)
 ·exact ⟨k.bf,k.nx,k.ar,k.se⟩
 ·exact ⟨k.bf,k.nx,k.ar,k.se⟩
 ·exact s4_ k
 ·exact ⟨k.bf,k.nx,k.ar,k.se⟩
 ·exact ⟨k.bf,k.nx,k.ar,k.se⟩
 ·change LnT _ (s5 c t x m).x;unfold s5
  dsimp only
  split
  ·exact ⟨k.bf,k.nx,k.ar,k.se⟩
  ·exact YC k
 ·change LnT _ (s6 c t x m).x;unfold s6
  dsimp only
  split
  ·exact ⟨fX _,k.nx,k.ar,k.se⟩
  ·exact YC k
 ·change LnT _ (s7 c t x m).x;unfold s7 BB
  dsimp only
  have hb1:(x.buf++[ld m (aNode c x.base.index+1+x.i)]).length≤B+1:=fI
  split
  ·exact ⟨hb1,k.nx,k.ar,k.se⟩
  ·split
   ·exact ⟨hb1,k.nx,k.ar,k.se⟩
   ·exact ⟨hb1,k.nx,k.ar,k.se⟩
 ·change LnT _ (s8 c t x m).x;unfold s8
  dsimp only
  split
  ·exact IV ⟨k.bf,k.nx,k.ar,k.se⟩
  ·exact ⟨k.bf,k.nx,fX _,k.se⟩
 ·change LnT _ (s9 c t x m).x;unfold s9
  dsimp only
  have ha1:(x.args++[ld m (EI c x.i+x.j)]).length≤B+1+5:=fI
  split
  ·exact ⟨k.bf,k.nx,ha1,k.se⟩
  ·exact ⟨k.bf,k.nx,ha1,k.se⟩
 ·change LnT _ (s10 c t x m).x;unfold s10 CE
  dsimp only
  split
  ·split
   ·exact IV ⟨k.bf,k.nx,k.ar,k.se⟩
   ·exact IV k
  ·exact IV k
 ·change LnT _ (s11 c t x m).x;unfold s11
  dsimp only
  split
  ·exact ⟨k.bf,k.nx,k.ar,k.se⟩
  ·exact QA ⟨k.bf,k.nx,k.ar,k.se⟩
 ·change LnT _ (s12 c t x m).x;unfold s12
  dsimp only
  split
  ·exact QA ⟨k.bf,k.nx,k.ar,k.se⟩
  ·exact ⟨k.bf,k.nx,k.ar,k.se⟩
 ·exact ⟨k.bf,k.nx,k.ar,k.se⟩
 ·change LnT _ (s14 c t x m).x;unfold s14
  dsimp only
  split
  ·exact ⟨k.bf,k.nx,k.ar,k.se⟩
  ·exact ⟨k.bf,k.nx,k.ar,k.se⟩
 ·change LnT _ (s15 c t x m).x;unfold s15
  split
  ·exact ⟨k.bf,k.nx,k.ar,k.se⟩
  ·exact YC k
 ·exact ⟨k.bf,k.nx,(by show (IL _ _).length≤_;unfold IL;split;(rw [show (HM x.req (ld m 2%4294967296)).length=5 by simp [HM,CW]];omega);exact fX _),k.se⟩
 ·change LnT _ (s17 c t x m).x;unfold s17
  dsimp only
  split
  ·exact ⟨k.bf,k.nx,k.ar,k.se⟩
  ·exact ⟨k.bf,k.nx,k.ar,k.se⟩
 ·exact ⟨k.bf,k.nx,k.ar,k.se⟩
 ·exact ⟨k.bf,k.nx,k.ar,k.se⟩
 ·exact ⟨k.bf,k.nx,k.ar,k.se⟩
 ·exact ⟨k.bf,k.nx,k.ar,k.se⟩
 ·change LnT _ (s22 c t x m).x;unfold s22
  dsimp only
  split
  ·exact ⟨k.bf,k.nx,k.ar,k.se⟩
  ·exact d_ ⟨k.bf,k.nx,k.ar,k.se⟩
 ·change LnT _ (s23 c t x m).x;unfold s23
  dsimp only
  split
  ·exact d_ ⟨k.bf,k.nx,k.ar,k.se⟩
  ·exact ⟨k.bf,k.nx,k.ar,k.se⟩
 ·change LnT _ (s24 c t x m).x;unfold s24
  dsimp only
  split
  ·exact ⟨k.bf,k.nx,k.ar,k.se⟩
  ·exact LI ⟨k.bf,k.nx,k.ar,k.se⟩
 ·change LnT _ (s25 c t x m).x;unfold s25
  dsimp only
  split
  ·exact ⟨k.bf,k.nx,k.ar,k.se⟩
  ·exact ⟨k.bf,k.nx,k.ar,fX _⟩
 ·change LnT _ (s26 c t x m).x;unfold s26
  dsimp only
  generalize (if ld m 1=x.word then backP x.pool (prE (x.word+1)) else x.pool)=pl at *
  split
  ·exact ⟨k.bf,k.nx,k.ar,k.se⟩
  ·exact LI ⟨k.bf,k.nx,k.ar,k.se⟩
 ·change LnT _ (s27 c t x m).x;unfold s27
  dsimp only
  have hs1:(x.seen++[ld m (aHaz c x.i)]).length≤B+1:=fI
  split
  ·exact LI ⟨k.bf,k.nx,k.ar,hs1⟩
  ·exact ⟨k.bf,k.nx,k.ar,hs1⟩
 ·change LnT _ (s28 c t x m).x;unfold s28
  split
  ·exact ⟨fX _,fX _,fX _,fX _⟩
  ·exact ⟨fX _,fX _,fX _,fX _⟩
 ·change LnT _ (s29 c t x m).x;unfold s29
  dsimp only
  split
  ·exact ⟨fX _,fX _,fX _,fX _⟩
  ·exact ⟨k.bf,k.nx,k.ar,k.se⟩
 ·exact ⟨k.bf,k.nx,k.ar,k.se⟩
 ·exact ⟨k.bf,k.nx,k.ar,k.se⟩
 ·exact ⟨k.bf,k.nx,k.ar,k.se⟩
 ·exact ⟨k.bf,k.nx,k.ar,k.se⟩
 ·exact ⟨k.bf,k.nx,k.ar,k.se⟩
 ·exact ⟨k.bf,k.nx,k.ar,k.se⟩
 ·exact ⟨k.bf,k.nx,k.ar,k.se⟩
 ·exact ⟨k.bf,k.nx,k.ar,k.se⟩
 ·change LnT _ (s38 c t x m).x;unfold s38
  dsimp only
  split
  ·exact ⟨k.bf,k.nx,k.ar,k.se⟩
  ·exact ⟨k.bf,k.nx,k.ar,k.se⟩
def LnK (c:AB) (m:Mm) (l:List AC) (u:List CP):Prop:=(∃S H,All c S H m l u) ∧ ∀(t:Nat) x,l[t]? = some x→LnT m.log.length x
theorem AtB (f:Okc c):LnK c (DC c).m (DC c).tasks (DC c).turns:=⟨⟨_,_,XI f⟩,fun t x h=>by
 obtain ⟨_,rfl⟩:=FJ h
 exact ⟨fX _,fX _,fX _,fX _⟩⟩
theorem BaE (f:Okc c) {s:Mc} (h:LnK c s.m s.tasks s.turns) (e:DB):LnK c (doM c s e).m (doM c s e).tasks (doM c s e).turns:=by
 refine SC (K:=LnK c) (fun m l u t q h ht hp hq hs=>?_) (fun m l u t z h ht h0=>?_) h e
 all_goals
  obtain ⟨⟨S,H,A⟩,L⟩:=h
  have hx:=EY A.inv.ll ht
 ·refine ⟨⟨S,H,GA f A hx hp hq hs⟩,fun u y hy=>?_⟩
  rcases AG hy with ⟨rfl,rfl⟩|⟨_,hy⟩
  ·exact ⟨fX _,fX _,fX _,fX _⟩
  ·exact L u y hy
 ·obtain ⟨S',H',B,_⟩:=JR (z:=z) f A hx h0
  refine ⟨⟨S',H',B⟩,fun u y hy=>?_⟩
  have k:=A.inv.ctx f hx h0
  obtain ⟨e,h1, -⟩:=EE (t:=t) (m:=m) k.h k.h0
  have hl:(stepT c t (l.getD t AK) m).m.log.length=m.log.length+1:=by rw [h1,fP];rfl
  rw [hl]
  rcases AG hy with ⟨rfl,rfl⟩|⟨_,hy⟩
  ·exact AlY k.h (L _ _ hx)
  ·exact (L u y hy).mono (kI _)
end Go.Proofs.YtccefppppedgkaaGreat
namespace Go.Proofs.YtccefppppedgkaaGreat
def TnK (c:AB) (m:Mm) (l:List AC) (u:List CP):Prop:=US c m l u∧(m.log.length≤1048576 → ∀v∈u,v.ops.length≤m.log.length ∧ ∀o∈v.ops,y4_ o)
theorem AvT {c:AB} (f:Okc c):TnK c (DC c).m (DC c).tasks (DC c).turns:=⟨s2_ f,fun _ v h=>by cases h⟩
theorem BbB {c:AB} (f:Okc c) {s:Mc} (h:TnK c s.m s.tasks s.turns) (e:DB):TnK c (doM c s e).m (doM c s e).tasks (doM c s e).turns:=by
 refine SC (K:=TnK c) (fun m l u t q h ht hp hq hs=>?_) (fun m l u t z h ht h0=>?_) h e
 ·obtain ⟨⟨S,H,A,L⟩,T⟩:=h
  have hx:=EY A.inv.ll ht
  exact ⟨⟨S,H,GA f A hx hp hq hs,KI L hx q⟩,T⟩
 ·obtain ⟨⟨S,H,A,L⟩,T⟩:=h
  have hx:=EY A.inv.ll ht
  obtain ⟨S',H',B,_⟩:=JR (z:=z) f A hx h0
  refine ⟨⟨S',H',B,SY f A.inv L hx h0⟩,fun hl v hv=>?_⟩
  have k:=A.inv.ctx f hx h0
  obtain ⟨e,h1, -⟩:=EE (t:=t) (m:=m) k.h k.h0
  have hlen:(stepT c t (l.getD t AK) m).m.log.length=m.log.length+1:=by rw [h1,fP];rfl
  have T0:=T (by omega)
  obtain ⟨-,R⟩:=L (by omega)
  have r:=R _ _ hx
  by_cases hr:(l.getD t AK).pc=15∧ld m 0=wdF (l.getD t AK).base
  ·obtain ⟨w1,w2⟩:=u1_ (t:=t) (m:=m) (c:=c) hr.1 hr.2
   rw [w1,w2,fR rfl] at hv
   rcases gQ.1 hv with hv|hv
   ·have:=T0 v hv;exact ⟨by omega,this.2⟩
   ·rw [iN.1 hv]
    have:=r.fl
    exact ⟨by dsimp only;omega,r.fo⟩
  ·rw [h9_ k.h hr] at hv
   have:=T0 v hv;exact ⟨by omega,this.2⟩
def NtK (s:Mc):Prop:=∀x∈s.notes,x.req.cases.length≤3
theorem q4_ {α:Type} {P:α→Prop} {l:List α} {a:α} (h : ∀x∈l,P x) (ha:P a) : ∀x∈l++[a],P x:=fun x hx=>by
 rcases gQ.1 hx with h'|h'
 ·exact h x h'
 ·rw [iN.1 h'];exact ha
theorem e6_ {c:AB} {s s':Mc} {t:Nat} {q:AU} (h:NtK s) (e:GC c s t q=some s'):NtK s':=by
 obtain ⟨h1,h2,h3,rfl⟩:=CK e
 exact q4_ h (MI h2)
theorem BaI {c:AB} (f:Okc c) {s:Mc} {k:Nat} (M:Mq c s k) (h:NtK s) (e:DB):NtK (doM c s e):=by
 obtain ⟨S,H,A,L⟩:=M.kn
 unfold doM
 split
 ·rename_i ht
  have htl:e.thread.toNat<thrN c:=by unfold thrN;omega
  generalize e.thread.toNat=t at *
  split
  ·unfold pickM
   dsimp only
   have g:NtK (goesM c (AP s) t)∧Bg c s.tasks (goesM c (AP s) t).tasks:=by
    unfold goesM
    split
    ·exact ⟨h,.inl rfl⟩
    ·split
     ·split
      ·rename_i s' hs'
       obtain ⟨h1,h2,h3,e1⟩:=CK hs'
       refine ⟨e6_ (s:=AP s) h hs',?_⟩
       rw [e1]
       exact .inr ⟨t,_,htl,h1,h2,h3,rfl⟩
      ·exact ⟨h,.inl rfl⟩
     ·exact ⟨h,.inl rfl⟩
   have gq : ∀x∈(goesM c (AP s) t).tasks,x.req.cases.length≤3:=(YG (t:=t) (KK M.ms)).rq
   generalize goesM c (AP s) t=s1 at *
   split
   ·exact g.1
   ·rename_i hpc
    have A1:=RV f A g.2
    have hx:=EY A1.inv.ll htl
    have e1:tkM (AX s1 t) t=s1.tasks.getD t AK:=by unfold AX tkM;split<;>rfl
    have e2:(AX s1 t).notes=s1.notes:=by unfold AX;split<;>rfl
    have e3:(AX s1 t).m=s1.m:=by unfold AX;split<;>rfl
    have hq:(stepT c t (s1.tasks.getD t AK) s1.m).x.req.cases.length≤3:=by
     rw [ID (A1.inv.loc t _ hx)]
     exact gq _ (fO hx)
    unfold LB
    dsimp only
    rw [e1,e3]
    generalize stepT c t (s1.tasks.getD t AK) s1.m=o at *
    have b : ∀q:Mc,(FQ q t o).notes=q.notes:=fun q=>by unfold FQ;split<;>rfl
    have w : ∀q:Mc,(wonM q t o).notes=q.notes:=fun q=>by unfold wonM;split<;>rfl
    intro x hx'
    rw [b] at hx'
    unfold noteM at hx'
    split at hx'
    ·rw [w] at hx';dsimp only at hx';rw [e2] at hx';exact g.1 x hx'
    ·dsimp only at hx'
     rw [w] at hx'
     dsimp only at hx'
     rw [e2] at hx'
     exact q4_ g.1 hq x hx'
  ·split
   ·unfold callM
    split
    ·rename_i hok
     split
     ·rename_i e'
      exact e6_ (s:=AP s) h e'
     ·unfold LE at hok
      simp only [gG] at hok
      have hq:=MI hok.2
      intro x hx
      rcases gQ.1 hx with hx|hx
      ·exact h x hx
      ·rcases iH.1 hx with rfl|hx
       ·exact hq
       ·rw [iN.1 hx];exact hq
    ·exact h
   ·split
    ·unfold pumpM
     split
     ·exact h
     ·split
      ·exact h
      ·exact h
    ·exact h
 ·exact h
structure Mz (c:AB) (s:Mc) (k:Nat):Prop where
 q:Mq c s k
 l:LnK c s.m s.tasks s.turns
 t:TnK c s.m s.tasks s.turns
 n:NtK s
theorem m6_ {c:AB} (f:Okc c):Mz c (DC c) 0:=⟨AgO f,AtB f,AvT f,fun x h=>by cases h⟩
theorem VZ {c:AB} (f:Okc c) {s:Mc} {k:Nat} (h:Mz c s k) (e:DB):Mz c (doM c s e) (k+1):=⟨BaF f h.q e,BaE f h.l e,BbB f h.t e,BaI f h.q h.n e⟩
theorem QW {c:AB} (f:Okc c) : ∀(l:List DB) {s:Mc} {k:Nat},Mz c s k→Mz c (l.foldl (doM c) s) (k+l.length)
 | [],_,_,h=>h
 |e::l,_,k,h=>by
  have:=QW f l (VZ f h e)
  rw [gF,show k+(l.length+1)=k+1+l.length by omega]
  exact this
end Go.Proofs.YtccefppppedgkaaGreat
namespace Go.Proofs.YtccefppppedgkaaGreat
end Go.Proofs.YtccefppppedgkaaGreat
