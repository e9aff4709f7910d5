/- Joined: XTTaskE. -/
import Derived.Test.YtccefppppedgkaaGreatKHzj
set_option linter.unusedVariables false
set_option linter.unusedSimpArgs false
set_option linter.unnecessarySimpa false
set_option maxRecDepth 100000
set_option maxHeartbeats 64000000
namespace Go.Proofs.YtccefppppedgkaaGreat
open Go.RowKit
section
attribute [local irreducible] AL AW RG Fin C Cd Cio AI AF AO
section
section
variable {c:AB} {t:Nat} {x:AC} {m:Mm} {n:Nat}
theorem BaV (k:TK c t x m n) (hp:x.pc=6):Cio Tryz.prog 122 [.ptr 0 0] (RO c x t 0 false [] m n) (.tup []) (RO c (s6 c t x m).x t (s6 c t x m).note (s6 c t x m).won (s6 c t x m).ops (s6 c t x m).m n):=by
 have hf:=k.f.facts
 have ht:=k.ht
 have hb:=k.ba eO
 have hnd:=k.nd0 hb.1 hb.2.1
 have hnm:=k.K.nm
 have cn:=IY c x t 0 false [] m n k.f k.hs x.base.index x.base.tag hb.1 (by omega)
 have c1:=BY c x t 0 false [] m n k.K k.t64 (aNode c x.base.index) (hnd)
 unfold s6
 dsimp only
 generalize ldM m t (aNode c x.base.index)=m' at *
 have c2:=YU c x t 0 false [] m' n k.rd
 generalize failT c x=y at *
 by_cases h:ld m (aNode c x.base.index)=x.base.tag
 ·rw [fR h]
  refine Bu ?_
  repeat' (first|refine Fz ?_|refine ZK2 (fun hc=>?_) (fun hc=>?_)|fail)
  all_goals exact A4 Tryz.results122
 ·rw [fT h]
  refine Bu ?_
  repeat' (first|refine Fz ?_|refine ZK2 (fun hc=>?_) (fun hc=>?_)|fail)
  all_goals exact A4 Tryz.results122
theorem BaW (k:TK c t x m n) (hp:x.pc=7):Cio Tryz.prog 122 [.ptr 0 0] (RO c x t 0 false [] m n) (.tup []) (RO c (s7 c t x m).x t (s7 c t x m).note (s7 c t x m).won (s7 c t x m).ops (s7 c t x m).m n):=by
 have hf:=k.f.facts
 have ht:=k.ht
 have hb:=k.ba eO
 have hnd:=k.nd0 hb.1 hb.2.1
 have hnm:=k.K.nm
 have cn:=IY c x t 0 false [] m n k.f k.hs x.base.index x.base.tag hb.1 (by omega)
 have ha:At c x 7:=by have:=k.lc.at_;rwa [hp] at this
 obtain ⟨-,i0,i1,bl⟩:=ha
 have cc:=XN x.buf
 have hr:=k.nd hb.1 hb.2.1 (q:=1+x.i) (by omega) (by omega)
 rw [←mI] at hr
 have c1:=BY c x t 0 false [] m n k.K k.t64 (aNode c x.base.index+1+x.i) (hr)
 have hu:okU (x.buf++[ld m (aNode c x.base.index+1+x.i)]):=EU k.r.bf (MN k.wu _)
 have bl2:(x.buf++[ld m (aNode c x.base.index+1+x.i)]).length=x.buf.length+1:=by simp
 unfold s7 BB
 dsimp only
 generalize ldM m t (aNode c x.base.index+1+x.i)=m' at *
 generalize ld m (aNode c x.base.index+1+x.i)=w at *
 have cs:=AqE c { x with buf:=x.buf++[w],i:=x.i+1 } t 0 false [] m' n k.f k.hs
 have cd:=YS c { x with buf:=x.buf++[w],i:=0,found:=[],pc:=8 } t 0 false [] m' n k.hs (x.buf++[w]) t hu (by omega)
 generalize readR (doneL c (x.buf++[w]) t)=r at *
 by_cases h1:x.i+1<sizeC c
 ·rw [fR h1]
  refine Bu ?_
  repeat' (first|refine D2 ?_|refine ZK2 (fun hc=>?_) (fun hc=>?_)|fail)
  all_goals exact A4 Tryz.results122
 ·rw [fT h1]
  obtain ⟨pc,seq,req,slow,round,i,j,tri,epoch,all_,base,buf,nxt,word,args,found,seen,pool,res,won,waits,scans⟩:=x
  dsimp only [RO,rB] at *
  cases slow
  ·rw [fT (by simp)]
   refine Bu ?_
   repeat' (first|refine D2 ?_|refine ZK2 (fun hc=>?_) (fun hc=>?_)|fail)
   all_goals exact A4 Tryz.results122
  ·by_cases h2:r.seq=seq
   ·rw [fR ⟨rfl,h2⟩]
    refine Bu ?_
    repeat' (first|refine D2 ?_|refine ZK2 (fun hc=>?_) (fun hc=>?_)|fail)
    all_goals exact A4 Tryz.results122
   ·rw [fT (fun e=>h2 e.2)]
    refine Bu ?_
    repeat' (first|refine D2 ?_|refine ZK2 (fun hc=>?_) (fun hc=>?_)|fail)
    all_goals exact A4 Tryz.results122
theorem BaX (k:TK c t x m n) (hp:x.pc=8):Cio Tryz.prog 123 [.ptr 0 0] (RO c x t 0 false [] m n) (.tup []) (RO c (s8 c t x m).x t (s8 c t x m).note (s8 c t x m).won (s8 c t x m).ops (s8 c t x m).m n):=by
 have hf:=k.f.facts
 have ht:=k.ht
 have ha:At c x 8:=by have:=k.lc.at_;rwa [hp] at this
 obtain ⟨-,⟨i0,i1⟩,bl⟩:=ha
 have ce:=j8_ k.f ⟨i0,i1⟩
 have c1:=BY c x t 0 false [] m n k.K k.t64 (aSeq c x.i) (k.lo eI eI)
 have hw:=MN k.wu (aSeq c x.i)
 unfold s8
 dsimp only
 generalize ldM m t (aSeq c x.i)=m' at *
 generalize ld m (aSeq c x.i)=w at *
 have cd:=YS c { x with word:=w } t 0 false [] m' n k.hs x.buf x.i k.r.bf (by omega)
 have c2:=IX c { x with word:=w } t 0 false [] m' n ⟨i0,by dsimp only;omega⟩
 generalize readR (doneL c x.buf x.i)=r at *
 generalize nextSeqT c { x with word:=w }=y at *
 by_cases h1:1048575<w
 ·rw [fR (.inl h1)]
  refine Au ?_
  repeat' (first|refine E8 ?_|refine ZK2 (fun hc=>?_) (fun hc=>?_)|fail)
  all_goals exact A4 Tryz.results123
 ·by_cases h2:w≤r.seq
  ·rw [fR (.inr h2)]
   refine Au ?_
   repeat' (first|refine E8 ?_|refine ZK2 (fun hc=>?_) (fun hc=>?_)|fail)
   all_goals exact A4 Tryz.results123
  ·rw [fT (by omega)]
   refine Au ?_
   repeat' (first|refine E8 ?_|refine ZK2 (fun hc=>?_) (fun hc=>?_)|fail)
   all_goals exact A4 Tryz.results123
theorem BaY (k:TK c t x m n) (hp:x.pc=9):Cio Tryz.prog 123 [.ptr 0 0] (RO c x t 0 false [] m n) (.tup []) (RO c (s9 c t x m).x t (s9 c t x m).note (s9 c t x m).won (s9 c t x m).ops (s9 c t x m).m n):=by
 have hf:=k.f.facts
 have ht:=k.ht
 have ha:At c x 9:=by have:=k.lc.at_;rwa [hp] at this
 obtain ⟨-,⟨i0,i1⟩,bl,j0,j1,al⟩:=ha
 have cc:=XN x.args
 have ce:=AcX k.f ⟨i0,i1⟩
 have hA:0≤EI c x.i∧EI c x.i≤1000:=by unfold EI;omega
 have c1:=BY c x t 0 false [] m n k.K k.t64 (EI c x.i+x.j) (k.lo (by omega) (by unfold EI;omega))
 unfold s9
 dsimp only
 generalize ldM m t (EI c x.i+x.j)=m' at *
 generalize ld m (EI c x.i+x.j)=w at *
 by_cases h1:x.j+1=5
 ·rw [fR h1]
  refine Au ?_
  repeat' (first|refine G0 ?_|refine ZK2 (fun hc=>?_) (fun hc=>?_)|fail)
  all_goals exact A4 Tryz.results123
 ·rw [fT h1]
  refine Au ?_
  repeat' (first|refine G0 ?_|refine ZK2 (fun hc=>?_) (fun hc=>?_)|fail)
  all_goals exact A4 Tryz.results123
theorem AuI (k:TK c t x m n) (hp:x.pc=10):Cio Tryz.prog 123 [.ptr 0 0] (RO c x t 0 false [] m n) (.tup []) (RO c (s10 c t x m).x t (s10 c t x m).note (s10 c t x m).won (s10 c t x m).ops (s10 c t x m).m n):=by
 have hf:=k.f.facts
 have ht:=k.ht
 have ha:At c x 10:=by have:=k.lc.at_;rwa [hp] at this
 obtain ⟨-,⟨i0,i1⟩,bl,al⟩:=ha
 have hws:=k.r.ws (.inr hp)
 have hfl:=k.r.fl
 have hw0:=k.r.wd.1
 have ce:=j8_ k.f ⟨i0,i1⟩
 have cc:=AdT x.found
 have c1:=BY c x t 0 false [] m n k.K k.t64 (aSeq c x.i) (k.lo eI eI)
 unfold s10 CE
 dsimp only
 generalize ldM m t (aSeq c x.i)=m' at *
 generalize ld m (aSeq c x.i)=w at *
 obtain ⟨h,a,b,d,p,hargs⟩ : ∃h a b d p,x.args=[h,a,b,d,p]:=by
  match x.args,al with
  | [h,a,b,d,p],_=>exact ⟨_,_,_,_,_,rfl⟩
 have hU:=k.r.ar
 rw [hargs] at hU
 have cq:=f5_ h a b d p (hU h (by simp)) (hU a (by simp)) (hU b (by simp)) (hU d (by simp)) (hU p (by simp))
 rw [←hargs] at cq
 have hrd:YR x.args=if KS h a b d p then some (reqR h a b d,p) else none:=by rw [hargs];rfl
 rw [hrd]
 unfold AnP phC at cq
 clear hrd
 cases hm:KS h a b d p
 ·rw [hm] at cq
  simp only [iM,jL] at cq ⊢
  have c2:=IX c x t 0 false [] m' n ⟨i0,by omega⟩
  generalize nextSeqT c x=y at *
  by_cases h1:w=x.word
  ·refine Au ?_
   repeat' (first|refine Ea ?_|refine ZK2 (fun hc=>?_) (fun hc=>?_)|fail)
   all_goals exact A4 Tryz.results123
  ·refine Au ?_
   repeat' (first|refine Ea ?_|refine ZK2 (fun hc=>?_) (fun hc=>?_)|fail)
   all_goals exact A4 Tryz.results123
 ·rw [hm] at cq
  simp only [jU] at cq ⊢
  by_cases h1:w=x.word
  ·rw [fR h1]
   have c2:=IX c { x with found:=x.found++[(⟨x.i,x.word,p,reqR h a b d⟩:DOp)]} t 0 false [] m' n ⟨i0,by dsimp only;omega⟩
   generalize nextSeqT c { x with found:=x.found++[(⟨x.i,x.word,p,reqR h a b d⟩:DOp)]}=y at *
   generalize reqR h a b d=rq at *
   refine Au ?_
   repeat' (first|((with_reducible refine kAW ?_);refine ufB 7 0 ?_)|(refine ZAL ?_;first|refine uA ?_|refine uI [0,1,2,3,4] (c2) ?_|refine uK (cq) ?_)|(refine ZRG ?_;first|refine Af ?_|refine Bt ?_|refine uR ?_|refine AT (ce) ?_|refine uJ1 0 [1,2,3,4] (c1) ?_|refine AT (cc) ?_)|refine uC ?_|refine D3 ?_|refine ZK2 (fun hc=>?_) (fun hc=>?_)|fail)
   all_goals exact A4 Tryz.results123
  ·rw [fT h1]
   have c2:=IX c x t 0 false [] m' n ⟨i0,by omega⟩
   generalize nextSeqT c x=y at *
   refine Au ?_
   repeat' (first|refine Ea ?_|refine ZK2 (fun hc=>?_) (fun hc=>?_)|fail)
   all_goals exact A4 Tryz.results123
end
end
end
end Go.Proofs.YtccefppppedgkaaGreat
