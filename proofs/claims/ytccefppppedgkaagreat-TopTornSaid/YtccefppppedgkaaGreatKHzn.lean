/- Joined: XTTaskG, XTTaskI. -/
import Derived.Test.YtccefppppedgkaaGreatKHzj
set_option linter.unusedVariables false
set_option linter.unusedSimpArgs false
set_option linter.unnecessarySimpa false
set_option maxRecDepth 100000
set_option maxHeartbeats 64000000
namespace Go.Proofs.YtccefppppedgkaaGreat
open Go.RowKit
section
attribute [local irreducible] AL AW RG Fin C Cd Cio AI AF AO
section
section
variable {c:AB} {t:Nat} {x:AC} {m:Mm} {n:Nat}
theorem AuO (k:TK c t x m n) (hp:x.pc=16):Cio Tryz.prog 126 [.ptr 0 0] (RO c x t 0 false [] m n) (.tup []) (RO c (s16 c t x m).x t (s16 c t x m).note (s16 c t x m).won (s16 c t x m).ops (s16 c t x m).m n):=by
 have hf:=k.f.facts
 have ht:=k.ht
 have cm:=AtD m n k.K t k.t64 2 1 (k.lo (by decide) (by omega))
 have hl:=MN k.wu 2
 have cp:=f3_ x.req (ld m 2%4294967296) (by have:=(SH (k.lc.fit (by omega))).2;omega) (by omega)
 rw [AdM] at cp
 unfold s16
 dsimp only
 generalize adM m t 2 1=m' at *
 generalize IL x.req (ld m 2%4294967296)=ws at *
 refine Cg ?_
 repeat' (first|(refine ZAL ?_;first|refine Ag ?_|refine uA ?_|refine uK (cp) ?_)|(refine ZRG ?_;first|refine uR ?_|refine uJ [1,2,3,4] (cm) ?_)|refine uC ?_|refine D4 ?_|refine ZK2 (fun hc=>?_) (fun hc=>?_)|fail)
 all_goals exact A4 Tryz.results126
theorem AuP (k:TK c t x m n) (hp:x.pc=17):Cio Tryz.prog 126 [.ptr 0 0] (RO c x t 0 false [] m n) (.tup []) (RO c (s17 c t x m).x t (s17 c t x m).note (s17 c t x m).won (s17 c t x m).ops (s17 c t x m).m n):=by
 have hf:=k.f.facts
 have ht:=k.ht
 have ha:At c x 17:=by have:=k.lc.at_;rwa [hp] at this
 obtain ⟨-,j0,j1,al⟩:=ha
 have e1:(x.args.map tU).length=x.args.length:=fN _
 obtain ⟨y,hy⟩ : ∃y,x.args[x.j.toNat]? = some y:=⟨_,ZgE (by omega)⟩
 have ey:x.args.getD x.j.toNat 0=y:=by rw [fQ,hy];rfl
 have ce:=AcX k.f k.t01
 have hA:0≤EI c t∧EI c t≤1000:=by unfold EI;omega
 have c1:=DK c x t 0 false [] m n k.K k.t64 (EI c t+x.j) (y) (k.lo (by omega) (by unfold EI;omega))
 unfold s17
 dsimp only
 rw [ey]
 generalize stM m t (EI c t+x.j) y=m' at *
 by_cases h1:x.j+1=5
 ·rw [fR h1]
  refine Cg ?_
  repeat' (first|refine G6 ?_|refine ZK2 (fun hc=>?_) (fun hc=>?_)|fail)
  all_goals exact A4 Tryz.results126
 ·rw [fT h1]
  refine Cg ?_
  repeat' (first|refine G6 ?_|refine ZK2 (fun hc=>?_) (fun hc=>?_)|fail)
  all_goals exact A4 Tryz.results126
theorem AuQ (k:TK c t x m n) (hp:x.pc=18):Cio Tryz.prog 126 [.ptr 0 0] (RO c x t 0 false [] m n) (.tup []) (RO c (s18 c t x m).x t (s18 c t x m).note (s18 c t x m).won (s18 c t x m).ops (s18 c t x m).m n):=by
 have hf:=k.f.facts
 have ht:=k.ht
 have hsq:=k.lc.seq
 have ce:=j8_ k.f k.t01
 have c1:=DK c x t 0 false [] m n k.K k.t64 (aSeq c t) (x.seq) (k.lo eI eI)
 unfold s18
 dsimp only
 generalize stM m t (aSeq c t) x.seq=m' at *
 refine Cg ?_
 repeat' (first|(refine ZAL ?_;first|refine Ag ?_|refine uA ?_)|(refine ZRG ?_;first|refine uR ?_|refine uJ1 0 [1,2,3,4] (c1) ?_|refine AT (ce) ?_)|refine uC ?_|refine D4 ?_|refine ZK2 (fun hc=>?_) (fun hc=>?_)|fail)
 all_goals exact A4 Tryz.results126
theorem AuR (k:TK c t x m n) (hp:x.pc=19):Cio Tryz.prog 126 [.ptr 0 0] (RO c x t 0 false [] m n) (.tup []) (RO c (s19 c t x m).x t (s19 c t x m).note (s19 c t x m).won (s19 c t x m).ops (s19 c t x m).m n):=by
 have hf:=k.f.facts
 have ht:=k.ht
 have ce:=GO k.f k.t01
 have c1:=BY c x t 0 false [] m n k.K k.t64 (aMail c t) (k.lo bO bO)
 have cr:=GT (ld m (aMail c t)) (MN k.wu _)
 unfold s19
 dsimp only
 generalize ldM m t (aMail c t)=m' at *
 generalize readR (ld m (aMail c t))=r at *
 refine Cg ?_
 repeat' (first|(refine ZAL ?_;first|refine Ag ?_|refine uA ?_)|(refine ZRG ?_;first|refine uR ?_|refine AT (ce) ?_|refine uJ1 0 [1,2,3,4] (c1) ?_|refine AT (cr) ?_)|refine uC ?_|refine D4 ?_|refine ZK2 (fun hc=>?_) (fun hc=>?_)|fail)
 all_goals exact A4 Tryz.results126
theorem AuS (k:TK c t x m n) (hp:x.pc=20):Cio Tryz.prog 127 [.ptr 0 0] (RO c x t 0 false [] m n) (.tup []) (RO c (s20 c t x m).x t (s20 c t x m).note (s20 c t x m).won (s20 c t x m).ops (s20 c t x m).m n):=by
 have hf:=k.f.facts
 have ht:=k.ht
 have cm:=GO k.f k.t01
 have ce:=RU k.f k.t01
 have c1:=DK c x t 0 false [] m n k.K k.t64 (aHaz c t) (0) (k.lo bY bY)
 unfold s20
 dsimp only
 generalize stM m t (aHaz c t) 0=m' at *
 obtain ⟨pc,seq,req,slow,round,i,j,tri,epoch,all_,base,buf,nxt,word,args,found,seen,pool,res,won,waits,scans⟩:=x
 dsimp only [RO,rB] at *
 cases won
 ·rw [fT (by simp)]
  refine B0 ?_
  repeat' (first|refine G9 ?_|refine uS 130 (fun hb=>?_) (fun hb=>?_)|refine ZK2 (fun hc=>?_) (fun hc=>?_)|fail)
  all_goals exact A4 Tryz.results127
 ·rw [fR rfl]
  refine B0 ?_
  repeat' (first|refine G9 ?_|refine uS 130 (fun hb=>?_) (fun hb=>?_)|refine ZK2 (fun hc=>?_) (fun hc=>?_)|fail)
  all_goals exact A4 Tryz.results127
theorem AuT (k:TK c t x m n) (hp:x.pc=21):Cio Tryz.prog 127 [.ptr 0 0] (RO c x t 0 false [] m n) (.tup []) (RO c (s21 c t x m).x t (s21 c t x m).note (s21 c t x m).won (s21 c t x m).ops (s21 c t x m).m n):=by
 have hf:=k.f.facts
 have ht:=k.ht
 have cm:=GO k.f k.t01
 have c1:=BY c x t 0 false [] m n k.K k.t64 (1) (k.lo (by decide) (by omega))
 have hg:=k.gl
 have ca:=AkH x.pool x.base (ld m 1) k.po
 unfold s21
 dsimp only
 generalize ldM m t 1=m' at *
 generalize ld m 1=g at *
 generalize awayP x.pool x.base g=pl at *
 refine B0 ?_
 repeat' (first|(refine ZAL ?_;first|refine uA ?_|refine uI [0,1,2,3,4] (c1) ?_)|(refine ZRG ?_;first|refine uR ?_|refine AT (cm) ?_|refine uJ1 0 [1,2,3,4] (c1) ?_|refine AT (ca) ?_)|refine uC ?_|refine D5 ?_|refine uS 130 (fun hb=>?_) (fun hb=>?_)|refine ZK2 (fun hc=>?_) (fun hc=>?_)|fail)
 all_goals exact A4 Tryz.results127
theorem AuU (k:TK c t x m n) (hp:x.pc=22):Cio Tryz.prog 127 [.ptr 0 0] (RO c x t 0 false [] m n) (.tup []) (RO c (s22 c t x m).x t (s22 c t x m).note (s22 c t x m).won (s22 c t x m).ops (s22 c t x m).m n):=by
 have hf:=k.f.facts
 have ht:=k.ht
 have cm:=GO k.f k.t01
 have c1:=BY c x t 0 false [] m n k.K k.t64 (aMail c t) (k.lo bO bO)
 have hw:=MN k.wu (aMail c t)
 have cr:=OT x.res
 unfold s22
 dsimp only
 generalize ldM m t (aMail c t)=m' at *
 generalize ld m (aMail c t)=w at *
 have cb:Cd Tryz.prog 178 [u64 w,u64 (wordR x.res)] (bo (behindW w (wordR x.res))) []:=WF w _ hw (RL _)
 have c2:=g7_ c { x with word:=w } t m' n
 generalize ownedT c { x with word:=w } m'=y at *
 generalize behindW w (wordR x.res)=b at *
 generalize wordR x.res=wr at *
 cases b
 ·rw [fT (by simp)]
  refine B0 ?_
  repeat' (first|refine Ga ?_|refine uS 130 (fun hb=>?_) (fun hb=>?_)|refine ZK2 (fun hc=>?_) (fun hc=>?_)|fail)
  all_goals exact A4 Tryz.results127
 ·rw [fR rfl]
  refine B0 ?_
  repeat' (first|refine Ga ?_|refine uS 130 (fun hb=>?_) (fun hb=>?_)|refine ZK2 (fun hc=>?_) (fun hc=>?_)|fail)
  all_goals exact A4 Tryz.results127
theorem AuV (k:TK c t x m n) (hp:x.pc=23):Cio Tryz.prog 127 [.ptr 0 0] (RO c x t 0 false [] m n) (.tup []) (RO c (s23 c t x m).x t (s23 c t x m).note (s23 c t x m).won (s23 c t x m).ops (s23 c t x m).m n):=by
 have hf:=k.f.facts
 have ht:=k.ht
 have cm:=GO k.f k.t01
 have htr:=k.r.tr
 have cr:=OT x.res
 have c1:=RF c x t 0 false [] m n k.K k.t64 (aMail c t) (x.word) (wordR x.res) (k.lo bO bO)
 unfold s23
 dsimp only
 generalize swM m t (aMail c t) x.word (wordR x.res)=m' at *
 have c2:=g7_ c { x with tri:=x.tri+1,pc:=22 } t m' n
 generalize ownedT c { x with tri:=x.tri+1,pc:=22 } m'=y at *
 generalize wordR x.res=wr at *
 by_cases h1:ld m (aMail c t)=x.word
 ·rw [fR (.inl h1)]
  rw [fW h1] at c1
  refine B0 ?_
  repeat' (first|refine Ee ?_|refine uS 130 (fun hb=>?_) (fun hb=>?_)|refine ZK2 (fun hc=>?_) (fun hc=>?_)|fail)
  all_goals exact A4 Tryz.results127
 ·rw [fZ h1] at c1
  by_cases h2:x.tri+1=2
  ·rw [fR (.inr h2)]
   refine B0 ?_
   repeat' (first|refine Ee ?_|refine uS 130 (fun hb=>?_) (fun hb=>?_)|refine ZK2 (fun hc=>?_) (fun hc=>?_)|fail)
   all_goals exact A4 Tryz.results127
  ·rw [fT (by simp only [h1,h2,or_self,not_false_eq_true])]
   refine B0 ?_
   repeat' (first|refine Ee ?_|refine uS 130 (fun hb=>?_) (fun hb=>?_)|refine ZK2 (fun hc=>?_) (fun hc=>?_)|fail)
   all_goals exact A4 Tryz.results127
end
end
section
section
variable {c:AB} {t:Nat} {x:AC} {m:Mm} {n:Nat}
theorem AvB (k:TK c t x m n) (hp:x.pc=29):Cio Tryz.prog 130 [.ptr 0 0] (RO c x t 0 false [] m n) (.tup []) (RO c (s29 c t x m).x t (s29 c t x m).note (s29 c t x m).won (s29 c t x m).ops (s29 c t x m).m n):=by
 have hf:=k.f.facts
 have ht:=k.ht
 have cm:=GO k.f k.t01
 have c1:=BY c x t 0 false [] m n k.K k.t64 (aMail c t) (k.lo bO bO)
 have hw:=MN k.wu (aMail c t)
 unfold s29
 dsimp only
 generalize ldM m t (aMail c t)=m' at *
 generalize ld m (aMail c t)=w at *
 have cr:=GT w hw
 have co:=v3_ c { x with pc:=30 } t 0 false [] m' n w hw
 have e0:overT { x with pc:=30 } w=overT x w:=rfl
 rw [e0] at co
 generalize overT x w=b at *
 generalize readR w=r at *
 have c2:=OX c { x with res:=r,pc:=30 } t 0 false [] m' n
 have e2:finishT { x with res:=r,pc:=30 }=finishT { x with res:=r }:=rfl
 rw [e2] at c2
 generalize finishT { x with res:=r }=y at *
 cases b
 ·rw [fT (by simp)]
  refine Ax ?_
  repeat' (first|refine Gf ?_|refine ZK2 (fun hc=>?_) (fun hc=>?_)|fail)
  all_goals exact A4 Tryz.results130
 ·rw [fR rfl]
  refine Ax ?_
  repeat' (first|refine Gf ?_|refine ZK2 (fun hc=>?_) (fun hc=>?_)|fail)
  all_goals exact A4 Tryz.results130
theorem AvC (k:TK c t x m n) (hp:x.pc=30):Cio Tryz.prog 130 [.ptr 0 0] (RO c x t 0 false [] m n) (.tup []) (RO c (s30 c t x m).x t (s30 c t x m).note (s30 c t x m).won (s30 c t x m).ops (s30 c t x m).m n):=by
 have hf:=k.f.facts
 have ht:=k.ht
 have c1:=BY c x t 0 false [] m n k.K k.t64 (1) (k.lo (by decide) (by omega))
 have g:=k.gl
 unfold s30
 dsimp only
 generalize ldM m t 1=m' at *
 refine Ax ?_
 repeat' (first|(refine ZAL ?_;first|refine uA ?_|refine uI [0,1,2,3,4] (c1) ?_)|(refine ZRG ?_;first|refine uR ?_|refine uJ1 0 [1,2,3,4] (c1) ?_)|refine uC ?_|refine Bb ?_|refine ZK2 (fun hc=>?_) (fun hc=>?_)|fail)
 all_goals exact A4 Tryz.results130
theorem AvD (k:TK c t x m n) (hp:x.pc=31):Cio Tryz.prog 130 [.ptr 0 0] (RO c x t 0 false [] m n) (.tup []) (RO c (s31 c t x m).x t (s31 c t x m).note (s31 c t x m).won (s31 c t x m).ops (s31 c t x m).m n):=by
 have hf:=k.f.facts
 have ht:=k.ht
 have ce:=RT k.f k.t01
 have cp:=TH x.epoch (by have:=k.r.ep;omega)
 have c1:=DK c x t 0 false [] m n k.K k.t64 (aEpo c t) (GM x.epoch) (k.lo bZ bZ)
 unfold s31
 dsimp only
 generalize stM m t (aEpo c t) (GM x.epoch)=m' at *
 refine Ax ?_
 repeat' (first|refine uA ?_|(refine ZRG ?_;first|refine uR ?_|refine AT (ce) ?_|refine AT (cp) ?_|refine uJ1 0 [1,2,3,4] (c1) ?_)|refine uC ?_|refine Bb ?_|refine ZK2 (fun hc=>?_) (fun hc=>?_)|fail)
 all_goals exact A4 Tryz.results130
theorem AvE (k:TK c t x m n) (hp:x.pc=32):Cio Tryz.prog 130 [.ptr 0 0] (RO c x t 0 false [] m n) (.tup []) (RO c (s32 c t x m).x t (s32 c t x m).note (s32 c t x m).won (s32 c t x m).ops (s32 c t x m).m n):=by
 have hf:=k.f.facts
 have ht:=k.ht
 have c1:=BY c x t 0 false [] m n k.K k.t64 (0) (k.lo (by decide) (by omega))
 have cr:=n7_ (ld m 0) (MN k.wu 0).1 (by have:=MN k.wu 0;omega)
 unfold s32 rdF
 dsimp only
 generalize ldM m t 0=m' at *
 refine Ax ?_
 repeat' (first|(refine ZAL ?_;first|refine uA ?_|refine uI [0,1,2,3,4] (c1) ?_|refine uK (cr) ?_)|(refine ZRG ?_;first|refine uR ?_|refine uJ1 0 [1,2,3,4] (c1) ?_)|refine uC ?_|refine Bb ?_|refine ZK2 (fun hc=>?_) (fun hc=>?_)|fail)
 all_goals exact A4 Tryz.results130
theorem AvF (k:TK c t x m n) (hp:x.pc=33):Cio Tryz.prog 130 [.ptr 0 0] (RO c x t 0 false [] m n) (.tup []) (RO c (s33 c t x m).x t (s33 c t x m).note (s33 c t x m).won (s33 c t x m).ops (s33 c t x m).m n):=by
 have hf:=k.f.facts
 have ht:=k.ht
 have ce:=RU k.f k.t01
 have cw:Cd Tryz.prog 92 [.agg [i64 x.base.index,i64 x.base.tag]] (u64 (wdF x.base)) []:=LW _ _
 have c1:=DK c x t 0 false [] m n k.K k.t64 (aHaz c t) (wdF x.base) (k.lo bY bY)
 unfold s33
 dsimp only
 generalize stM m t (aHaz c t) (wdF x.base)=m' at *
 refine Ax ?_
 repeat' (first|refine uA ?_|(refine ZRG ?_;first|refine uR ?_|refine uJ1 0 [1,2,3,4] (c1) ?_|refine AT (ce) ?_|refine AT (cw) ?_)|refine uC ?_|refine Bb ?_|refine ZK2 (fun hc=>?_) (fun hc=>?_)|fail)
 all_goals exact A4 Tryz.results130
theorem AvG (k:TK c t x m n) (hp:x.pc=34):Cio Tryz.prog 130 [.ptr 0 0] (RO c x t 0 false [] m n) (.tup []) (RO c (s34 c t x m).x t (s34 c t x m).note (s34 c t x m).won (s34 c t x m).ops (s34 c t x m).m n):=by
 have hf:=k.f.facts
 have ht:=k.ht
 have c1:=BY c { x with word:=0,pc:=37 } t 0 false [] m n k.K k.t64 0 (k.lo (by decide) (by omega))
 have cw:Cd Tryz.prog 92 [.agg [i64 x.base.index,i64 x.base.tag]] (u64 (wdF x.base)) []:=LW _ _
 unfold s34
 dsimp only
 generalize ldM m t 0=m' at *
 generalize wdF x.base=wb at *
 by_cases h1:ld m 0=wb
 ·rw [fR h1]
  refine Ax ?_
  repeat' (first|refine Gh ?_|refine ZK2 (fun hc=>?_) (fun hc=>?_)|fail)
  all_goals exact A4 Tryz.results130
 ·rw [fT h1]
  refine Ax ?_
  repeat' (first|refine Gh ?_|refine ZK2 (fun hc=>?_) (fun hc=>?_)|fail)
  all_goals exact A4 Tryz.results130
theorem AvH (k:TK c t x m n) (hp:x.pc=35):Cio Tryz.prog 194 [.ptr 0 0] (RO c x t 0 false [] m n) (.tup []) (RO c (s35 c t x m).x t (s35 c t x m).note (s35 c t x m).won (s35 c t x m).ops (s35 c t x m).m n):=by
 have hf:=k.f.facts
 have ht:=k.ht
 have hb:=k.ba eO
 have hnd:=k.nd0 hb.1 hb.2.1
 have hnm:=k.K.nm
 have cn:=IY c { x with pc:=37 } t 0 false [] m n k.f k.hs x.base.index x.base.tag hb.1 (by omega)
 have c1:=BY c { x with pc:=37 } t 0 false [] m n k.K k.t64 (aNode c x.base.index) hnd
 unfold s35
 dsimp only
 generalize ldM m t (aNode c x.base.index)=m' at *
 by_cases h1:ld m (aNode c x.base.index)=x.base.tag
 ·rw [fR h1]
  refine Bw ?_
  repeat' (first|refine Gi ?_|refine ZK2 (fun hc=>?_) (fun hc=>?_)|fail)
  all_goals exact A4 Tryz.results194
 ·rw [fT h1]
  refine Bw ?_
  repeat' (first|refine Gi ?_|refine ZK2 (fun hc=>?_) (fun hc=>?_)|fail)
  all_goals exact A4 Tryz.results194
theorem AvI (k:TK c t x m n) (hp:x.pc=36):Cio Tryz.prog 194 [.ptr 0 0] (RO c x t 0 false [] m n) (.tup []) (RO c (s36 c t x m).x t (s36 c t x m).note (s36 c t x m).won (s36 c t x m).ops (s36 c t x m).m n):=by
 have hf:=k.f.facts
 have ht:=k.ht
 have hb:=k.ba eO
 have hnd:=k.nd0 hb.1 hb.2.1
 have hnm:=k.K.nm
 have cn:=IY c x t 0 false [] m n k.f k.hs x.base.index x.base.tag hb.1 (by omega)
 have cs:=AqE c x t 0 false [] m n k.f k.hs
 have hr:=k.nd hb.1 hb.2.1 (q:=1+sizeC c-c.threads+t) (by omega) (by omega)
 have e:aNode c x.base.index+(1+sizeC c-c.threads+t)=aNode c x.base.index+1+sizeC c-c.threads+t:=by omega
 rw [e] at hr
 have c1:=BY c x t 0 false [] m n k.K k.t64 (aNode c x.base.index+1+sizeC c-c.threads+t) (hr)
 unfold s36
 dsimp only
 generalize ldM m t (aNode c x.base.index+1+sizeC c-c.threads+t)=m' at *
 refine Bw ?_
 repeat' (first|refine uA ?_|(refine ZRG ?_;first|refine uR ?_|refine uJ1 0 [1,2,3,4] (cn) ?_|refine uJ1 0 [1,2,3,4] (c1) ?_|refine uJ1 0 [1,2,3,4] (cs) ?_)|refine uC ?_|refine D8 ?_|refine ZK2 (fun hc=>?_) (fun hc=>?_)|fail)
 all_goals exact A4 Tryz.results194
theorem AvJ (k:TK c t x m n) (hp:x.pc=37):Cio Tryz.prog 194 [.ptr 0 0] (RO c x t 0 false [] m n) (.tup []) (RO c (s37 c t x m).x t (s37 c t x m).note (s37 c t x m).won (s37 c t x m).ops (s37 c t x m).m n):=by
 have hf:=k.f.facts
 have ht:=k.ht
 have ce:=RU k.f k.t01
 have c1:=DK c x t 0 false [] m n k.K k.t64 (aHaz c t) (0) (k.lo bY bY)
 unfold s37
 dsimp only
 generalize stM m t (aHaz c t) 0=m' at *
 refine Bw ?_
 repeat' (first|refine uA ?_|(refine ZRG ?_;first|refine uR ?_|refine AT (ce) ?_|refine uJ1 0 [1,2,3,4] (c1) ?_)|refine uC ?_|refine D8 ?_|refine ZK2 (fun hc=>?_) (fun hc=>?_)|fail)
 all_goals exact A4 Tryz.results194
theorem AvK (k:TK c t x m n) (hp:x.pc=38):Cio Tryz.prog 194 [.ptr 0 0] (RO c x t 0 false [] m n) (.tup []) (RO c (s38 c t x m).x t (s38 c t x m).note (s38 c t x m).won (s38 c t x m).ops (s38 c t x m).m n):=by
 have hf:=k.f.facts
 have ht:=k.ht
 have ce:=RT k.f k.t01
 have c1:=DK c x t 0 false [] m n k.K k.t64 (aEpo c t) (0) (k.lo bZ bZ)
 have hw:=k.r.wd
 have cr:=GT x.word hw
 unfold s38
 dsimp only
 generalize stM m t (aEpo c t) 0=m' at *
 have co:=v3_ c { x with pc:=29 } t 0 false [] m' n x.word hw
 have e0:overT { x with pc:=29 } x.word=overT x x.word:=rfl
 rw [e0] at co
 generalize overT x x.word=b at *
 generalize readR x.word=r at *
 cases b
 ·rw [fT (by simp)]
  refine Bw ?_
  repeat' (first|refine Gk ?_|refine ZK2 (fun hc=>?_) (fun hc=>?_)|fail)
  all_goals exact A4 Tryz.results194
 ·rw [fR rfl]
  refine Bw ?_
  repeat' (first|refine Gk ?_|refine ZK2 (fun hc=>?_) (fun hc=>?_)|fail)
  all_goals exact A4 Tryz.results194
end
end
end
end Go.Proofs.YtccefppppedgkaaGreat
