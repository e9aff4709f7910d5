/- Joined: XTTaskE. -/
import Derived.Test.YtccefppppedgkaaGreatKGze
set_option linter.unusedVariables false
set_option linter.unusedSimpArgs false
set_option linter.unnecessarySimpa false
set_option maxRecDepth 100000
set_option maxHeartbeats 64000000
namespace Go.Proofs.YtccefppppedgkaaGreat
open Go.RowKit
section
attribute [local irreducible] AL AW RG Fin C Cd Cio AI AF AN
section
section
variable {c:AB} {t:Nat} {x:AC} {m:Mm} {n:Nat}
theorem AyH (k:TK c t x m n) (hp:x.pc=6):Cio Tryz.prog 122 [.ptr 0 0] (RO c x t 0 false [] m n) (.tup []) (RO c (s6 c t x m).x t (s6 c t x m).note (s6 c t x m).won (s6 c t x m).ops (s6 c t x m).m n):=by
 have hf:=k.f.facts
 have ht:=k.ht
 have hb:=k.ba (by unfold Rdg;omega)
 have hnd:=k.nd0 hb.1 hb.2.1
 have hnm:=k.K.nm
 have cn:=II c x t 0 false [] m n k.f k.hs x.base.index x.base.tag hb.1 (by omega)
 have c1:=BW c x t 0 false [] m n k.K k.t64 (aNode c x.base.index) (hnd)
 unfold s6
 dsimp only
 generalize ldM m t (aNode c x.base.index)=m' at *
 have c2:=XJ c x t 0 false [] m' n k.rd
 generalize failT c x=y at *
 by_cases h:ld m (aNode c x.base.index)=x.base.tag
 ·rw [fL h]
  refine Bl ?_
  repeat' (first|refine Ff ?_|refine ZK2 (fun hc=>?_) (fun hc=>?_)|fail)
  all_goals exact A3 Tryz.results122
 ·rw [fM h]
  refine Bl ?_
  repeat' (first|refine Ff ?_|refine ZK2 (fun hc=>?_) (fun hc=>?_)|fail)
  all_goals exact A3 Tryz.results122
theorem AyI (k:TK c t x m n) (hp:x.pc=7):Cio Tryz.prog 122 [.ptr 0 0] (RO c x t 0 false [] m n) (.tup []) (RO c (s7 c t x m).x t (s7 c t x m).note (s7 c t x m).won (s7 c t x m).ops (s7 c t x m).m n):=by
 have hf:=k.f.facts
 have ht:=k.ht
 have hb:=k.ba (by unfold Rdg;omega)
 have hnd:=k.nd0 hb.1 hb.2.1
 have hnm:=k.K.nm
 have cn:=II c x t 0 false [] m n k.f k.hs x.base.index x.base.tag hb.1 (by omega)
 have ha:At c x 7:=by have:=k.lc.at_;rwa [hp] at this
 obtain ⟨-,i0,i1,bl⟩:=ha
 have cc:=WB x.buf
 have hr:=k.nd hb.1 hb.2.1 (q:=1+x.i) (by omega) (by omega)
 rw [←mH] at hr
 have c1:=BW c x t 0 false [] m n k.K k.t64 (aNode c x.base.index+1+x.i) (hr)
 have hu:okU (x.buf++[ld m (aNode c x.base.index+1+x.i)]):=EK k.r.bf (PM k.wu _)
 have bl2:(x.buf++[ld m (aNode c x.base.index+1+x.i)]).length=x.buf.length+1:=by simp
 unfold s7 BA
 dsimp only
 generalize ldM m t (aNode c x.base.index+1+x.i)=m' at *
 generalize ld m (aNode c x.base.index+1+x.i)=w at *
 have cs:=AnQ c { x with buf:=x.buf++[w],i:=x.i+1 } t 0 false [] m' n k.f k.hs
 have cd:=XH c { x with buf:=x.buf++[w],i:=0,found:=[],pc:=8 } t 0 false [] m' n k.hs (x.buf++[w]) t hu (by omega)
 generalize readR (doneL c (x.buf++[w]) t)=r at *
 by_cases h1:x.i+1<sizeC c
 ·rw [fL h1]
  refine Bl ?_
  repeat' (first|refine Ct ?_|refine ZK2 (fun hc=>?_) (fun hc=>?_)|fail)
  all_goals exact A3 Tryz.results122
 ·rw [fM h1]
  obtain ⟨pc,seq,req,slow,round,i,j,tri,epoch,all_,base,buf,nxt,word,args,found,seen,pool,res,won,waits,scans⟩:=x
  dsimp only [RO,rB] at *
  cases slow
  ·rw [fM (by simp)]
   refine Bl ?_
   repeat' (first|refine Ct ?_|refine ZK2 (fun hc=>?_) (fun hc=>?_)|fail)
   all_goals exact A3 Tryz.results122
  ·by_cases h2:r.seq=seq
   ·rw [fL ⟨rfl,h2⟩]
    refine Bl ?_
    repeat' (first|refine Ct ?_|refine ZK2 (fun hc=>?_) (fun hc=>?_)|fail)
    all_goals exact A3 Tryz.results122
   ·rw [fM (fun e=>h2 e.2)]
    refine Bl ?_
    repeat' (first|refine Ct ?_|refine ZK2 (fun hc=>?_) (fun hc=>?_)|fail)
    all_goals exact A3 Tryz.results122
theorem AyJ (k:TK c t x m n) (hp:x.pc=8):Cio Tryz.prog 123 [.ptr 0 0] (RO c x t 0 false [] m n) (.tup []) (RO c (s8 c t x m).x t (s8 c t x m).note (s8 c t x m).won (s8 c t x m).ops (s8 c t x m).m n):=by
 have hf:=k.f.facts
 have ht:=k.ht
 have ha:At c x 8:=by have:=k.lc.at_;rwa [hp] at this
 obtain ⟨-,⟨i0,i1⟩,bl⟩:=ha
 have ce:=f8_ k.f ⟨i0,i1⟩
 have c1:=BW c x t 0 false [] m n k.K k.t64 (aSeq c x.i) (k.lo eW eW)
 have hw:=PM k.wu (aSeq c x.i)
 unfold s8
 dsimp only
 generalize ldM m t (aSeq c x.i)=m' at *
 generalize ld m (aSeq c x.i)=w at *
 have cd:=XH c { x with word:=w } t 0 false [] m' n k.hs x.buf x.i k.r.bf (by omega)
 have c2:=IG c { x with word:=w } t 0 false [] m' n ⟨i0,by dsimp only;omega⟩
 generalize readR (doneL c x.buf x.i)=r at *
 generalize nextSeqT c { x with word:=w }=y at *
 by_cases h1:1048575<w
 ·rw [fL (.inl h1)]
  refine Av ?_
  repeat' (first|refine Dy ?_|refine ZK2 (fun hc=>?_) (fun hc=>?_)|fail)
  all_goals exact A3 Tryz.results123
 ·by_cases h2:w≤r.seq
  ·rw [fL (.inr h2)]
   refine Av ?_
   repeat' (first|refine Dy ?_|refine ZK2 (fun hc=>?_) (fun hc=>?_)|fail)
   all_goals exact A3 Tryz.results123
  ·rw [fM (by omega)]
   refine Av ?_
   repeat' (first|refine Dy ?_|refine ZK2 (fun hc=>?_) (fun hc=>?_)|fail)
   all_goals exact A3 Tryz.results123
theorem AyK (k:TK c t x m n) (hp:x.pc=9):Cio Tryz.prog 123 [.ptr 0 0] (RO c x t 0 false [] m n) (.tup []) (RO c (s9 c t x m).x t (s9 c t x m).note (s9 c t x m).won (s9 c t x m).ops (s9 c t x m).m n):=by
 have hf:=k.f.facts
 have ht:=k.ht
 have ha:At c x 9:=by have:=k.lc.at_;rwa [hp] at this
 obtain ⟨-,⟨i0,i1⟩,bl,j0,j1,al⟩:=ha
 have cc:=WB x.args
 have ce:=AaY k.f ⟨i0,i1⟩
 have hA:0≤EP c x.i∧EP c x.i≤1000:=by unfold EP;omega
 have c1:=BW c x t 0 false [] m n k.K k.t64 (EP c x.i+x.j) (k.lo (by omega) (by unfold EP;omega))
 unfold s9
 dsimp only
 generalize ldM m t (EP c x.i+x.j)=m' at *
 generalize ld m (EP c x.i+x.j)=w at *
 by_cases h1:x.j+1=5
 ·rw [fL h1]
  refine Av ?_
  repeat' (first|refine Fi ?_|refine ZK2 (fun hc=>?_) (fun hc=>?_)|fail)
  all_goals exact A3 Tryz.results123
 ·rw [fM h1]
  refine Av ?_
  repeat' (first|refine Fi ?_|refine ZK2 (fun hc=>?_) (fun hc=>?_)|fail)
  all_goals exact A3 Tryz.results123
theorem ArT (k:TK c t x m n) (hp:x.pc=10):Cio Tryz.prog 123 [.ptr 0 0] (RO c x t 0 false [] m n) (.tup []) (RO c (s10 c t x m).x t (s10 c t x m).note (s10 c t x m).won (s10 c t x m).ops (s10 c t x m).m n):=by
 have hf:=k.f.facts
 have ht:=k.ht
 have ha:At c x 10:=by have:=k.lc.at_;rwa [hp] at this
 obtain ⟨-,⟨i0,i1⟩,bl,al⟩:=ha
 have hws:=k.r.ws (.inr hp)
 have hfl:=k.r.fl
 have hw0:=k.r.wd.1
 have ce:=f8_ k.f ⟨i0,i1⟩
 have cc:=AbV x.found
 have c1:=BW c x t 0 false [] m n k.K k.t64 (aSeq c x.i) (k.lo eW eW)
 unfold s10 CE
 dsimp only
 generalize ldM m t (aSeq c x.i)=m' at *
 generalize ld m (aSeq c x.i)=w at *
 obtain ⟨h,a,b,d,p,hargs⟩ : ∃h a b d p,x.args=[h,a,b,d,p]:=by
  match x.args,al with
  | [h,a,b,d,p],_=>exact ⟨_,_,_,_,_,rfl⟩
 have hU:=k.r.ar
 rw [hargs] at hU
 have cq:=b8_ h a b d p (hU h (by simp)) (hU a (by simp)) (hU b (by simp)) (hU d (by simp)) (hU p (by simp))
 rw [←hargs] at cq
 have hrd:XG x.args=if KG h a b d p then some (reqR h a b d,p) else none:=by rw [hargs];rfl
 rw [hrd]
 unfold AlI phC at cq
 clear hrd
 cases hm:KG h a b d p
 ·rw [hm] at cq
  simp only [iC,jC] at cq ⊢
  have c2:=IG c x t 0 false [] m' n ⟨i0,by omega⟩
  generalize nextSeqT c x=y at *
  by_cases h1:w=x.word
  ·refine Av ?_
   repeat' (first|refine E0 ?_|refine ZK2 (fun hc=>?_) (fun hc=>?_)|fail)
   all_goals exact A3 Tryz.results123
  ·refine Av ?_
   repeat' (first|refine E0 ?_|refine ZK2 (fun hc=>?_) (fun hc=>?_)|fail)
   all_goals exact A3 Tryz.results123
 ·rw [hm] at cq
  simp only [jL] at cq ⊢
  by_cases h1:w=x.word
  ·rw [fL h1]
   have c2:=IG c { x with found:=x.found++[(⟨x.i,x.word,p,reqR h a b d⟩:DOp)]} t 0 false [] m' n ⟨i0,by dsimp only;omega⟩
   generalize nextSeqT c { x with found:=x.found++[(⟨x.i,x.word,p,reqR h a b d⟩:DOp)]}=y at *
   generalize reqR h a b d=rq at *
   refine Av ?_
   repeat' (first|((with_reducible refine kAW ?_);refine ufB 7 0 ?_)|(refine ZAL ?_;first|refine uA ?_|refine uI [0,1,2,3,4] (c2) ?_|refine uK (cq) ?_)|(refine ZRG ?_;first|refine Af ?_|refine Bk ?_|refine uR ?_|refine AZ (ce) ?_|refine uJ1 0 [1,2,3,4] (c1) ?_|refine AZ (cc) ?_)|refine uC ?_|refine Cu ?_|refine ZK2 (fun hc=>?_) (fun hc=>?_)|fail)
   all_goals exact A3 Tryz.results123
  ·rw [fM h1]
   have c2:=IG c x t 0 false [] m' n ⟨i0,by omega⟩
   generalize nextSeqT c x=y at *
   refine Av ?_
   repeat' (first|refine E0 ?_|refine ZK2 (fun hc=>?_) (fun hc=>?_)|fail)
   all_goals exact A3 Tryz.results123
end
end
end
end Go.Proofs.YtccefppppedgkaaGreat
