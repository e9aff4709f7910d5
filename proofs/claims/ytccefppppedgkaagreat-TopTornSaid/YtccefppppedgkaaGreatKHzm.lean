/- Joined: XTTaskH. -/
import Derived.Test.YtccefppppedgkaaGreatKHzj
set_option linter.unusedVariables false
set_option linter.unusedSimpArgs false
set_option linter.unnecessarySimpa false
set_option maxRecDepth 100000
set_option maxHeartbeats 64000000
namespace Go.Proofs.YtccefppppedgkaaGreat
open Go.RowKit
section
attribute [local irreducible] AL AW RG Fin C Cd Cio AI AF AO
section
section
variable {c:AB} {t:Nat} {x:AC} {m:Mm} {n:Nat}
theorem AuW (k:TK c t x m n) (hp:x.pc=24):Cio Tryz.prog 128 [.ptr 0 0] (RO c x t 0 false [] m n) (.tup []) (RO c (s24 c t x m).x t (s24 c t x m).note (s24 c t x m).won (s24 c t x m).ops (s24 c t x m).m n):=by
 have hf:=k.f.facts
 have ht:=k.ht
 have hwd:=k.r.wd
 have c1:=BY c x t 0 false [] m n k.K k.t64 (1) (k.lo (by decide) (by omega))
 have hg:=k.gl
 have ce:=AdK (ld m 1) (by omega) x.pool (by have:=k.po;omega)
 have hpl:(backP x.pool (prE (ld m 1))).free.length+(backP x.pool (prE (ld m 1))).old.length≤5864062014804:=by rw [backP_len];exact k.po
 unfold s24
 dsimp only
 generalize ldM m t 1=m' at *
 generalize ld m 1=g at *
 generalize backP x.pool (prE g)=pl at *
 have c2:=IZ c { x with word:=g,pool:=pl,i:=0,all_:=true,pc:=25 } t 0 false [] m' n hpl
 have cn:=MT pl c.retire
 generalize scannedT c { x with word:=g,pool:=pl,i:=0,all_:=true,pc:=25 }=y at *
 generalize needsP pl c.retire=b at *
 cases b
 ·rw [fT (by simp)]
  refine Aw ?_
  repeat' (first|refine Gb ?_|refine ZK2 (fun hc=>?_) (fun hc=>?_)|fail)
  all_goals exact A4 Tryz.results128
 ·rw [fR rfl]
  refine Aw ?_
  repeat' (first|refine Gb ?_|refine ZK2 (fun hc=>?_) (fun hc=>?_)|fail)
  all_goals exact A4 Tryz.results128
theorem AuX (k:TK c t x m n) (hp:x.pc=25):Cio Tryz.prog 128 [.ptr 0 0] (RO c x t 0 false [] m n) (.tup []) (RO c (s25 c t x m).x t (s25 c t x m).note (s25 c t x m).won (s25 c t x m).ops (s25 c t x m).m n):=by
 have hf:=k.f.facts
 have ht:=k.ht
 have ha:At c x 25:=by have:=k.lc.at_;rwa [hp] at this
 obtain ⟨-,i0,i1⟩:=ha
 have hg:=k.sg (.inl hp)
 have ce:=RT k.f ⟨i0,i1⟩
 have c1:=BY c x t 0 false [] m n k.K k.t64 (aEpo c x.i) (k.lo bZ bZ)
 unfold s25
 dsimp only
 generalize ldM m t (aEpo c x.i)=m' at *
 generalize ld m (aEpo c x.i)=w at *
 have cl:=AmY w x.word (by omega)
 generalize letsW w x.word=b at *
 obtain ⟨pc,seq,req,slow,round,i,j,tri,epoch,all_,base,buf,nxt,word,args,found,seen,pool,res,won,waits,scans⟩:=x
 dsimp only [RO,rB] at *
 by_cases h1:i+1<c.threads
 all_goals
  first|rw [fR h1]|rw [fT h1]
  by_cases h2:i=(t:Int)
  all_goals
   first|rw [fW h2]|rw [fZ h2]
   cases all_<;>cases b
   all_goals
    simp only [kM,jH,Bool.true_or,Bool.false_or,jU,jL,iM]
    refine Aw ?_
    repeat' (first|(refine ZAL ?_;first|refine uA ?_|refine uI [0,1,2,3,4] (c1) ?_)|(refine ZRG ?_;first|refine Af ?_|refine uR ?_|refine AT (ce) ?_|refine uJ1 0 [1,2,3,4] (c1) ?_|refine AT (cl) ?_)|refine uC ?_|refine D6 ?_|refine ZK2 (fun hc=>?_) (fun hc=>?_)|fail)
    all_goals first|(exfalso;omega)|(refine fnz 0 ?_;(first|exact Fin.q Tryz.results128 .nil []|refine Fin.q Tryz.results128 .nil [] (hr:=(.tupL .nil))|refine Fin.mkv (rs:=_) Tryz.results128 .nil [] (by decide) rfl ?_ ?_ ?_<;>repeat' (first|exact ZE1|refine ZE2 ?_ ?_|refine ZE3 ?_|exact ZE4|fail)))
theorem AuY (k:TK c t x m n) (hp:x.pc=26):Cio Tryz.prog 128 [.ptr 0 0] (RO c x t 0 false [] m n) (.tup []) (RO c (s26 c t x m).x t (s26 c t x m).note (s26 c t x m).won (s26 c t x m).ops (s26 c t x m).m n):=by
 have hf:=k.f.facts
 have ht:=k.ht
 have hg:=k.sg (.inr hp)
 have c1:=RF c { x with pc:=27 } t 0 false [] m n k.K k.t64 (1) (x.word) (x.word+1) (k.lo (by decide) (by omega))
 have ce:=AdK (x.word+1) (by omega) x.pool (by have:=k.po;omega)
 have hpl:(backP x.pool (prE (x.word+1))).free.length+(backP x.pool (prE (x.word+1))).old.length≤5864062014804:=by rw [backP_len];exact k.po
 have hp0:=k.po
 unfold s26
 dsimp only
 generalize swM m t 1 x.word (x.word+1)=m' at *
 generalize backP x.pool (prE (x.word+1))=pl at *
 by_cases h1:ld m 1=x.word
 ·rw [fR h1]
  rw [fW h1] at c1
  have c2:=IZ c { x with pc:=27,pool:=pl } t 0 false [] m' n hpl
  have cn:=MT pl c.retire
  generalize scannedT c { x with pc:=27,pool:=pl }=y at *
  generalize needsP pl c.retire=b at *
  cases b
  ·rw [fT (by simp)]
   refine Aw ?_
   repeat' (first|refine D7 ?_|refine ZK2 (fun hc=>?_) (fun hc=>?_)|fail)
   all_goals exact A4 Tryz.results128
  ·rw [fR rfl]
   refine Aw ?_
   repeat' (first|refine D7 ?_|refine ZK2 (fun hc=>?_) (fun hc=>?_)|fail)
   all_goals exact A4 Tryz.results128
 ·rw [fT h1]
  rw [fZ h1] at c1
  have c2:=IZ c { x with pc:=27,pool:=x.pool } t 0 false [] m' n hp0
  have cn:=MT x.pool c.retire
  generalize scannedT c { x with pc:=27,pool:=x.pool }=y at *
  generalize needsP x.pool c.retire=b at *
  cases b
  ·rw [fT (by simp)]
   refine Aw ?_
   repeat' (first|refine D7 ?_|refine ZK2 (fun hc=>?_) (fun hc=>?_)|fail)
   all_goals exact A4 Tryz.results128
  ·rw [fR rfl]
   refine Aw ?_
   repeat' (first|refine D7 ?_|refine ZK2 (fun hc=>?_) (fun hc=>?_)|fail)
   all_goals exact A4 Tryz.results128
theorem AuZ (k:TK c t x m n) (hp:x.pc=27):Cio Tryz.prog 128 [.ptr 0 0] (RO c x t 0 false [] m n) (.tup []) (RO c (s27 c t x m).x t (s27 c t x m).note (s27 c t x m).won (s27 c t x m).ops (s27 c t x m).m n):=by
 have hf:=k.f.facts
 have ht:=k.ht
 have hwd:=k.r.wd
 have ha:At c x 27:=by have:=k.lc.at_;rwa [hp] at this
 obtain ⟨-,⟨i0,i1⟩,sl⟩:=ha
 have ce:=RU k.f ⟨i0,i1⟩
 have cc:=XN x.seen
 have c1:=BY c x t 0 false [] m n k.K k.t64 (aHaz c x.i) (k.lo bY bY)
 unfold s27
 dsimp only
 generalize ldM m t (aHaz c x.i)=m' at *
 generalize ld m (aHaz c x.i)=w at *
 have sl2:(x.seen++[w]).length=x.seen.length+1:=by simp
 have cs:=ArP (x.seen++[w]) (by omega) x.pool (by have:=k.po;omega)
 have hpl:(backP x.pool (prS (x.seen++[w]))).free.length+(backP x.pool (prS (x.seen++[w]))).old.length≤5864062014804:=by rw [backP_len];exact k.po
 generalize backP x.pool (prS (x.seen++[w]))=pl at *
 have c2:=IZ c { x with seen:=x.seen++[w],i:=x.i+1,pool:=pl } t 0 false [] m' n hpl
 generalize scannedT c { x with seen:=x.seen++[w],i:=x.i+1,pool:=pl }=y at *
 by_cases h1:x.i+1=c.threads
 ·rw [fR h1]
  refine Aw ?_
  repeat' (first|refine Gc ?_|refine ZK2 (fun hc=>?_) (fun hc=>?_)|fail)
  all_goals exact A4 Tryz.results128
 ·rw [fT h1]
  refine Aw ?_
  repeat' (first|refine Gc ?_|refine ZK2 (fun hc=>?_) (fun hc=>?_)|fail)
  all_goals exact A4 Tryz.results128
theorem AvA (k:TK c t x m n) (hp:x.pc=28):Cio Tryz.prog 129 [.ptr 0 0] (RO c x t 0 false [] m n) (.tup []) (RO c (s28 c t x m).x t (s28 c t x m).note (s28 c t x m).won (s28 c t x m).ops (s28 c t x m).m n):=by
 have hf:=k.f.facts
 have ht:=k.ht
 have ce:=RT k.f k.t01
 have c1:=DK c x t 0 false [] m n k.K k.t64 (aEpo c t) (0) (k.lo bZ bZ)
 unfold s28
 dsimp only
 generalize stM m t (aEpo c t) 0=m' at *
 have c2:=OX c x t 0 false [] m' n
 generalize finishT x=y at *
 by_cases h1:x.res.code=14
 ·rw [fR h1]
  unfold AK
  refine ZEN Tryz.func129 Tryz.ntmps129 ?_
  repeat' (first|refine Gd ?_|refine ZK2 (fun hc=>?_) (fun hc=>?_)|fail)
  all_goals exact A4 Tryz.results129
 ·rw [fT h1]
  refine ZEN Tryz.func129 Tryz.ntmps129 ?_
  repeat' (first|refine Gd ?_|refine ZK2 (fun hc=>?_) (fun hc=>?_)|fail)
  all_goals exact A4 Tryz.results129
end
end
end
end Go.Proofs.YtccefppppedgkaaGreat
