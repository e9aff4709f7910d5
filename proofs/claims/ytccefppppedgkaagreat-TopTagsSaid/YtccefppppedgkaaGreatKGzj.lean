/- Joined: XTTaskI. -/
import Derived.Test.YtccefppppedgkaaGreatKGze
set_option linter.unusedVariables false
set_option linter.unusedSimpArgs false
set_option linter.unnecessarySimpa false
set_option maxRecDepth 100000
set_option maxHeartbeats 64000000
namespace Go.Proofs.YtccefppppedgkaaGreat
open Go.RowKit
section
attribute [local irreducible] AL AW RG Fin C Cd Cio AI AF AN
section
section
variable {c:AB} {t:Nat} {x:AC} {m:Mm} {n:Nat}
theorem AsM (k:TK c t x m n) (hp:x.pc=29):Cio Tryz.prog 130 [.ptr 0 0] (RO c x t 0 false [] m n) (.tup []) (RO c (s29 c t x m).x t (s29 c t x m).note (s29 c t x m).won (s29 c t x m).ops (s29 c t x m).m n):=by
 have hf:=k.f.facts
 have ht:=k.ht
 have cm:=GG k.f k.t01
 have c1:=BW c x t 0 false [] m n k.K k.t64 (aMail c t) (k.lo dJ dJ)
 have hw:=PM k.wu (aMail c t)
 unfold s29
 dsimp only
 generalize ldM m t (aMail c t)=m' at *
 generalize ld m (aMail c t)=w at *
 have cr:=GL w hw
 have co:=r_ c { x with pc:=30 } t 0 false [] m' n w hw
 have e0:overT { x with pc:=30 } w=overT x w:=rfl
 rw [e0] at co
 generalize overT x w=b at *
 generalize readR w=r at *
 have c2:=OB c { x with res:=r,pc:=30 } t 0 false [] m' n
 have e2:finishT { x with res:=r,pc:=30 }=finishT { x with res:=r }:=rfl
 rw [e2] at c2
 generalize finishT { x with res:=r }=y at *
 cases b
 ·rw [fM (by simp)]
  refine Ax ?_
  repeat' (first|refine G0 ?_|refine ZK2 (fun hc=>?_) (fun hc=>?_)|fail)
  all_goals exact A3 Tryz.results130
 ·rw [fL rfl]
  refine Ax ?_
  repeat' (first|refine G0 ?_|refine ZK2 (fun hc=>?_) (fun hc=>?_)|fail)
  all_goals exact A3 Tryz.results130
theorem AsN (k:TK c t x m n) (hp:x.pc=30):Cio Tryz.prog 130 [.ptr 0 0] (RO c x t 0 false [] m n) (.tup []) (RO c (s30 c t x m).x t (s30 c t x m).note (s30 c t x m).won (s30 c t x m).ops (s30 c t x m).m n):=by
 have hf:=k.f.facts
 have ht:=k.ht
 have c1:=BW c x t 0 false [] m n k.K k.t64 (1) (k.lo (by decide) (by omega))
 have g:=k.gl
 unfold s30
 dsimp only
 generalize ldM m t 1=m' at *
 refine Ax ?_
 repeat' (first|(refine ZAL ?_;first|refine uA ?_|refine uI [0,1,2,3,4] (c1) ?_)|(refine ZRG ?_;first|refine uR ?_|refine uJ1 0 [1,2,3,4] (c1) ?_)|refine uC ?_|refine B5 ?_|refine ZK2 (fun hc=>?_) (fun hc=>?_)|fail)
 all_goals exact A3 Tryz.results130
theorem AsO (k:TK c t x m n) (hp:x.pc=31):Cio Tryz.prog 130 [.ptr 0 0] (RO c x t 0 false [] m n) (.tup []) (RO c (s31 c t x m).x t (s31 c t x m).note (s31 c t x m).won (s31 c t x m).ops (s31 c t x m).m n):=by
 have hf:=k.f.facts
 have ht:=k.ht
 have ce:=QM k.f k.t01
 have cp:=RY x.epoch (by have:=k.r.ep;omega)
 have c1:=DF c x t 0 false [] m n k.K k.t64 (aEpo c t) (GE x.epoch) (k.lo dL dL)
 unfold s31
 dsimp only
 generalize stM m t (aEpo c t) (GE x.epoch)=m' at *
 refine Ax ?_
 repeat' (first|refine uA ?_|(refine ZRG ?_;first|refine uR ?_|refine AZ (ce) ?_|refine AZ (cp) ?_|refine uJ1 0 [1,2,3,4] (c1) ?_)|refine uC ?_|refine B5 ?_|refine ZK2 (fun hc=>?_) (fun hc=>?_)|fail)
 all_goals exact A3 Tryz.results130
theorem AsP (k:TK c t x m n) (hp:x.pc=32):Cio Tryz.prog 130 [.ptr 0 0] (RO c x t 0 false [] m n) (.tup []) (RO c (s32 c t x m).x t (s32 c t x m).note (s32 c t x m).won (s32 c t x m).ops (s32 c t x m).m n):=by
 have hf:=k.f.facts
 have ht:=k.ht
 have c1:=BW c x t 0 false [] m n k.K k.t64 (0) (k.lo (by decide) (by omega))
 have cr:=AfT (ld m 0) (PM k.wu 0).1 (by have:=PM k.wu 0;omega)
 unfold s32 rdF
 dsimp only
 generalize ldM m t 0=m' at *
 refine Ax ?_
 repeat' (first|(refine ZAL ?_;first|refine uA ?_|refine uI [0,1,2,3,4] (c1) ?_|refine uK (cr) ?_)|(refine ZRG ?_;first|refine uR ?_|refine uJ1 0 [1,2,3,4] (c1) ?_)|refine uC ?_|refine B5 ?_|refine ZK2 (fun hc=>?_) (fun hc=>?_)|fail)
 all_goals exact A3 Tryz.results130
theorem AsQ (k:TK c t x m n) (hp:x.pc=33):Cio Tryz.prog 130 [.ptr 0 0] (RO c x t 0 false [] m n) (.tup []) (RO c (s33 c t x m).x t (s33 c t x m).note (s33 c t x m).won (s33 c t x m).ops (s33 c t x m).m n):=by
 have hf:=k.f.facts
 have ht:=k.ht
 have ce:=QN k.f k.t01
 have cw:Cd Tryz.prog 92 [.agg [i64 x.base.index,i64 x.base.tag]] (u64 (wdF x.base)) []:=LG _ _
 have c1:=DF c x t 0 false [] m n k.K k.t64 (aHaz c t) (wdF x.base) (k.lo dK dK)
 unfold s33
 dsimp only
 generalize stM m t (aHaz c t) (wdF x.base)=m' at *
 refine Ax ?_
 repeat' (first|refine uA ?_|(refine ZRG ?_;first|refine uR ?_|refine uJ1 0 [1,2,3,4] (c1) ?_|refine AZ (ce) ?_|refine AZ (cw) ?_)|refine uC ?_|refine B5 ?_|refine ZK2 (fun hc=>?_) (fun hc=>?_)|fail)
 all_goals exact A3 Tryz.results130
theorem AsR (k:TK c t x m n) (hp:x.pc=34):Cio Tryz.prog 130 [.ptr 0 0] (RO c x t 0 false [] m n) (.tup []) (RO c (s34 c t x m).x t (s34 c t x m).note (s34 c t x m).won (s34 c t x m).ops (s34 c t x m).m n):=by
 have hf:=k.f.facts
 have ht:=k.ht
 have c1:=BW c { x with word:=0,pc:=37 } t 0 false [] m n k.K k.t64 0 (k.lo (by decide) (by omega))
 have cw:Cd Tryz.prog 92 [.agg [i64 x.base.index,i64 x.base.tag]] (u64 (wdF x.base)) []:=LG _ _
 unfold s34
 dsimp only
 generalize ldM m t 0=m' at *
 generalize wdF x.base=wb at *
 by_cases h1:ld m 0=wb
 ·rw [fL h1]
  refine Ax ?_
  repeat' (first|refine G2 ?_|refine ZK2 (fun hc=>?_) (fun hc=>?_)|fail)
  all_goals exact A3 Tryz.results130
 ·rw [fM h1]
  refine Ax ?_
  repeat' (first|refine G2 ?_|refine ZK2 (fun hc=>?_) (fun hc=>?_)|fail)
  all_goals exact A3 Tryz.results130
theorem AsS (k:TK c t x m n) (hp:x.pc=35):Cio Tryz.prog 194 [.ptr 0 0] (RO c x t 0 false [] m n) (.tup []) (RO c (s35 c t x m).x t (s35 c t x m).note (s35 c t x m).won (s35 c t x m).ops (s35 c t x m).m n):=by
 have hf:=k.f.facts
 have ht:=k.ht
 have hb:=k.ba (by unfold Rdg;omega)
 have hnd:=k.nd0 hb.1 hb.2.1
 have hnm:=k.K.nm
 have cn:=II c { x with pc:=37 } t 0 false [] m n k.f k.hs x.base.index x.base.tag hb.1 (by omega)
 have c1:=BW c { x with pc:=37 } t 0 false [] m n k.K k.t64 (aNode c x.base.index) hnd
 unfold s35
 dsimp only
 generalize ldM m t (aNode c x.base.index)=m' at *
 by_cases h1:ld m (aNode c x.base.index)=x.base.tag
 ·rw [fL h1]
  refine Bn ?_
  repeat' (first|refine G4 ?_|refine ZK2 (fun hc=>?_) (fun hc=>?_)|fail)
  all_goals exact A3 Tryz.results194
 ·rw [fM h1]
  refine Bn ?_
  repeat' (first|refine G4 ?_|refine ZK2 (fun hc=>?_) (fun hc=>?_)|fail)
  all_goals exact A3 Tryz.results194
theorem AsT (k:TK c t x m n) (hp:x.pc=36):Cio Tryz.prog 194 [.ptr 0 0] (RO c x t 0 false [] m n) (.tup []) (RO c (s36 c t x m).x t (s36 c t x m).note (s36 c t x m).won (s36 c t x m).ops (s36 c t x m).m n):=by
 have hf:=k.f.facts
 have ht:=k.ht
 have hb:=k.ba (by unfold Rdg;omega)
 have hnd:=k.nd0 hb.1 hb.2.1
 have hnm:=k.K.nm
 have cn:=II c x t 0 false [] m n k.f k.hs x.base.index x.base.tag hb.1 (by omega)
 have cs:=AnQ c x t 0 false [] m n k.f k.hs
 have hr:=k.nd hb.1 hb.2.1 (q:=1+sizeC c-c.threads+t) (by omega) (by omega)
 have e:aNode c x.base.index+(1+sizeC c-c.threads+t)=aNode c x.base.index+1+sizeC c-c.threads+t:=by omega
 rw [e] at hr
 have c1:=BW c x t 0 false [] m n k.K k.t64 (aNode c x.base.index+1+sizeC c-c.threads+t) (hr)
 unfold s36
 dsimp only
 generalize ldM m t (aNode c x.base.index+1+sizeC c-c.threads+t)=m' at *
 refine Bn ?_
 repeat' (first|refine uA ?_|(refine ZRG ?_;first|refine uR ?_|refine uJ1 0 [1,2,3,4] (cn) ?_|refine uJ1 0 [1,2,3,4] (c1) ?_|refine uJ1 0 [1,2,3,4] (cs) ?_)|refine uC ?_|refine Cz ?_|refine ZK2 (fun hc=>?_) (fun hc=>?_)|fail)
 all_goals exact A3 Tryz.results194
theorem AsU (k:TK c t x m n) (hp:x.pc=37):Cio Tryz.prog 194 [.ptr 0 0] (RO c x t 0 false [] m n) (.tup []) (RO c (s37 c t x m).x t (s37 c t x m).note (s37 c t x m).won (s37 c t x m).ops (s37 c t x m).m n):=by
 have hf:=k.f.facts
 have ht:=k.ht
 have ce:=QN k.f k.t01
 have c1:=DF c x t 0 false [] m n k.K k.t64 (aHaz c t) (0) (k.lo dK dK)
 unfold s37
 dsimp only
 generalize stM m t (aHaz c t) 0=m' at *
 refine Bn ?_
 repeat' (first|refine uA ?_|(refine ZRG ?_;first|refine uR ?_|refine AZ (ce) ?_|refine uJ1 0 [1,2,3,4] (c1) ?_)|refine uC ?_|refine Cz ?_|refine ZK2 (fun hc=>?_) (fun hc=>?_)|fail)
 all_goals exact A3 Tryz.results194
theorem AsV (k:TK c t x m n) (hp:x.pc=38):Cio Tryz.prog 194 [.ptr 0 0] (RO c x t 0 false [] m n) (.tup []) (RO c (s38 c t x m).x t (s38 c t x m).note (s38 c t x m).won (s38 c t x m).ops (s38 c t x m).m n):=by
 have hf:=k.f.facts
 have ht:=k.ht
 have ce:=QM k.f k.t01
 have c1:=DF c x t 0 false [] m n k.K k.t64 (aEpo c t) (0) (k.lo dL dL)
 have hw:=k.r.wd
 have cr:=GL x.word hw
 unfold s38
 dsimp only
 generalize stM m t (aEpo c t) 0=m' at *
 have co:=r_ c { x with pc:=29 } t 0 false [] m' n x.word hw
 have e0:overT { x with pc:=29 } x.word=overT x x.word:=rfl
 rw [e0] at co
 generalize overT x x.word=b at *
 generalize readR x.word=r at *
 cases b
 ·rw [fM (by simp)]
  refine Bn ?_
  repeat' (first|refine G5 ?_|refine ZK2 (fun hc=>?_) (fun hc=>?_)|fail)
  all_goals exact A3 Tryz.results194
 ·rw [fL rfl]
  refine Bn ?_
  repeat' (first|refine G5 ?_|refine ZK2 (fun hc=>?_) (fun hc=>?_)|fail)
  all_goals exact A3 Tryz.results194
end
end
end
end Go.Proofs.YtccefppppedgkaaGreat
