/- Joined: XTTaskB, XTTaskC. -/
import Derived.Test.YtccefppppedgkaaGreatKHy
import Derived.Test.YtccefppppedgkaaGreatKHza
set_option linter.unusedVariables false
set_option linter.unusedSimpArgs false
set_option linter.unnecessarySimpa false
set_option maxRecDepth 100000
set_option maxHeartbeats 64000000
namespace Go.Proofs.YtccefppppedgkaaGreat
open Go.RowKit
section
attribute [local irreducible] AL AW RG Fin C Cd Cio AI AF AO
section
section
variable (c:AB) (x:AC) (t:Nat) (nt:Int) (wn:Bool) (op:List DOp) (m:Mm) (n:Nat)
theorem YS (hs:c.start.length≤1152921504606846976) (l:List Int) (u:Int) (hU:okU l) (hl:l.length≤1152921504606846976) :
  Cio Tryz.prog 170 [.ptr 0 0,.ln (l.map tU),i64 u] (RO c x t nt wn op m n) (aR (readR (doneL c l u))) (RO c x t nt wn op m n):=by
 have c1:=XS c hs l u hl
 have c2:=GT (doneL c l u) (QP hU u)
 refine ZEN Tryz.func170 Tryz.ntmps170 ?_
 repeat' (first|refine Ai ?_|refine ZK2 (fun hc=>?_) (fun hc=>?_)|fail)
 all_goals first|(exfalso;omega)|((first|exact Bi Tryz.results170|refine Fin.q Tryz.results170 (.cons (.agg rfl rfl ud53 rfl inf53 (us:=[_,_,_,_]) rfl rfl) .nil) [] (hr:=(.t ?_))|refine Dq Tryz.results170 ?_ ?_ ?_<;>repeat' (first|exact ZE1|refine ZE2 ?_ ?_|refine ZE3 ?_|exact ZE4|fail)))
theorem IY (f:Okc c) (hs:c.start.length≤1152921504606846976) (i g:Int) (h0:0≤i) (h1:i≤nodesL c) :
  Cio Tryz.prog 167 [.ptr 0 0,.agg [i64 i,i64 g]] (RO c x t nt wn op m n) (i64 (aNode c i)) (RO c x t nt wn op m n):=by
 have c1:=MC f hs h0 h1
 refine ZEN Tryz.func167 Tryz.ntmps167 ?_
 repeat' (first|refine uA ?_|(refine ZRG ?_;first|refine uR ?_|refine AT (c1) ?_)|refine uC ?_|refine AW.drawU (id:=1) mixed 2 qR ?_|refine ZK2 (fun hc=>?_) (fun hc=>?_)|fail)
 all_goals first|(exfalso;omega)|((first|exact A6 Tryz.results167|refine A5 Tryz.results167 ?_|refine A8 Tryz.results167 ?_ ?_ ?_<;>repeat' (first|exact ZE1|refine ZE2 ?_ ?_|refine ZE3 ?_|exact ZE4|fail)))
theorem AqE (f:Okc c) (hs:c.start.length≤1152921504606846976) :
  Cio Tryz.prog 169 [.ptr 0 0] (RO c x t nt wn op m n) (i64 (sizeC c)) (RO c x t nt wn op m n):=by
 have hf:=f.facts
 have hn:=DQ f.ok
 have c0:=MC f hs (i:=0) (by omega) (by omega)
 have c1:=MC f hs (i:=1) (by omega) (by omega)
 have e:aNode c 1=aNode c 0+1+sizeC c:=by unfold aNode;omega
 have e0:0≤aNode c 0∧aNode c 0≤1000:=by unfold aNode;omega
 rw [e] at c1
 generalize aNode c 0=a at *
 refine ZEN Tryz.func169 Tryz.ntmps169 ?_
 repeat' (first|refine uA ?_|(refine ZRG ?_;first|(refine kR 1802 rfl ?_;first|(first|refine uQ (c1) 0 ?_|refine uQ (c1) 1 ?_|refine uQ (c1) 2 ?_|refine uQ (c1) 3 ?_|refine uQ (c1) 4 ?_|refine uQ (c1) 5 ?_|refine uQ (c1) 6 ?_|refine uQ (c1) 7 ?_|refine uQ (c1) 8 ?_|refine uQ (c1) 9 ?_|refine uQ (c1) 10 ?_|refine uQ (c1) 11 ?_|refine uQ (c1) 12 ?_|refine uQ (c1) 13 ?_)|(first|refine uQ (c0) 0 ?_|refine uQ (c0) 1 ?_|refine uQ (c0) 2 ?_|refine uQ (c0) 3 ?_|refine uQ (c0) 4 ?_|refine uQ (c0) 5 ?_|refine uQ (c0) 6 ?_|refine uQ (c0) 7 ?_|refine uQ (c0) 8 ?_|refine uQ (c0) 9 ?_|refine uQ (c0) 10 ?_|refine uQ (c0) 11 ?_|refine uQ (c0) 12 ?_|refine uQ (c0) 13 ?_))|refine uR ?_)|refine uC ?_|refine AW.drawU (id:=1) mixed 4 qR ?_|refine ZK2 (fun hc=>?_) (fun hc=>?_)|fail)
 all_goals first|(exfalso;omega)|((first|exact A6 Tryz.results169|refine A5 Tryz.results169 ?_|refine A8 Tryz.results169 ?_ ?_ ?_<;>repeat' (first|exact ZE1|refine ZE2 ?_ ?_|refine ZE3 ?_|exact ZE4|fail)))
 all_goals (congr 2;omega)
theorem f7_:Cio Tryz.prog 215 [.ptr 0 0] (RO c x t nt wn op m n) (.tup []) (RO c (againT c x) t nt wn op m n):=by
 unfold againT RO rB
 dsimp only
 cases hs:x.slow
 ·by_cases h1:c.patience<x.round
  ·rw [fR ⟨rfl,h1⟩]
   refine ZEN Tryz.func215 Tryz.ntmps215 ?_
   repeat' (first|refine C1 ?_|refine uS 36 (fun hb=>?_) (fun hb=>?_)|refine ZK2 (fun hc=>?_) (fun hc=>?_)|fail)
   all_goals exact A9 Tryz.results215
  ·rw [fT (fun e=>h1 e.2),fT (by simp)]
   refine ZEN Tryz.func215 Tryz.ntmps215 ?_
   repeat' (first|refine C1 ?_|refine uS 36 (fun hb=>?_) (fun hb=>?_)|refine ZK2 (fun hc=>?_) (fun hc=>?_)|fail)
   all_goals exact A9 Tryz.results215
 ·by_cases h1:3<x.round
  ·rw [fT (by simp),fR ⟨rfl,h1⟩]
   refine ZEN Tryz.func215 Tryz.ntmps215 ?_
   repeat' (first|refine C1 ?_|refine uS 36 (fun hb=>?_) (fun hb=>?_)|refine ZK2 (fun hc=>?_) (fun hc=>?_)|fail)
   all_goals exact A9 Tryz.results215
  ·rw [fT (by simp),fT (fun e=>h1 e.2)]
   refine ZEN Tryz.func215 Tryz.ntmps215 ?_
   repeat' (first|refine C1 ?_|refine uS 36 (fun hb=>?_) (fun hb=>?_)|refine ZK2 (fun hc=>?_) (fun hc=>?_)|fail)
   all_goals exact A9 Tryz.results215
theorem YU (hr:0≤x.round∧x.round≤1048577):Cio Tryz.prog 166 [.ptr 0 0] (RO c x t nt wn op m n) (.tup []) (RO c (failT c x) t nt wn op m n):=by
 have c1:=f7_ c { x with round:=x.round+1,found:=[]} t nt wn op m n
 unfold failT
 generalize againT c { x with round:=x.round+1,found:=[]}=y at *
 refine ZEN Tryz.func166 Tryz.ntmps166 ?_
 repeat' (first|(refine ZAL ?_;first|refine uA ?_|refine uI [0,1,2,3,4] (c1) ?_)|refine uC ?_|refine ZK2 (fun hc=>?_) (fun hc=>?_)|fail)
 all_goals exact A9 Tryz.results166
theorem WO:Cio Tryz.prog 216 [.ptr 0 0] (RO c x t nt wn op m n) (.tup []) (RO c (refuseT x) t nt wn op m n):=by
 have c1:=AvY x.pool
 unfold refuseT
 generalize whyP x.pool=y at *
 refine ZEN Tryz.func216 Tryz.ntmps216 ?_
 repeat' (first|refine uA ?_|(refine ZRG ?_;first|refine uR ?_|refine AT (c1) ?_)|refine uC ?_|refine AW.drawU (id:=0) mixed 2 qR ?_|refine ZK2 (fun hc=>?_) (fun hc=>?_)|fail)
 all_goals exact A9 Tryz.results216
theorem v5_ (hp:x.pool.free.length+x.pool.old.length≤5864062014804):Cio Tryz.prog 164 [.ptr 0 0] (RO c x t nt wn op m n) (.tup []) (RO c (takeT c x) t nt wn op m n):=by
 have c1:=AoI c.tags x.pool (by omega)
 have e1:(takeP c.tags x.pool).old=x.pool.old:=rfl
 unfold takeT
 dsimp only
 generalize takeP c.tags x.pool=p at *
 have e2:(p.old.map tOd).length=p.old.length:=fN _
 by_cases h1:p.own.tag=0
 ·rw [fT (by simpa using h1)]
  rw [fZ (by simpa using h1)] at c1
  by_cases h2:p.old=[]
  ·rw [fT (fun e=>e.1 h2)]
   have h3:p.old.length=0:=by rw [h2];rfl
   have c2:=WO c { x with pool:=p } t nt wn op m n
   generalize refuseT { x with pool:=p }=y at *
   refine ZEN Tryz.func164 Tryz.ntmps164 ?_
   repeat' (first|refine Du ?_|refine uS 38 (fun hb=>?_) (fun hb=>?_)|refine ZK2 (fun hc=>?_) (fun hc=>?_)|fail)
   all_goals exact A9 Tryz.results164
  ·have h3:0<p.old.length:=lI.2 h2
   have c2:=WO c { x with pool:=p } t nt wn op m n
   generalize refuseT { x with pool:=p }=y at *
   unfold RO rB at c2 ⊢
   dsimp only at c2 ⊢
   cases hs:x.scans
   ·rw [hs] at c2
    rw [fR ⟨h2,rfl⟩]
    refine ZEN Tryz.func164 Tryz.ntmps164 ?_
    repeat' (first|refine uA ?_|(refine ZRG ?_;first|refine uR ?_|refine AT (c1) ?_)|refine uC ?_|refine AW.drawU (id:=0) mixed 3 qR ?_|refine uS 38 (fun hb=>?_) (fun hb=>?_)|refine ZK2 (fun hc=>?_) (fun hc=>?_)|fail)
    all_goals exact A9 Tryz.results164
   ·rw [hs] at c2
    rw [fT (fun e=>by simp at e)]
    refine ZEN Tryz.func164 Tryz.ntmps164 ?_
    repeat' (first|refine Du ?_|refine uS 38 (fun hb=>?_) (fun hb=>?_)|refine ZK2 (fun hc=>?_) (fun hc=>?_)|fail)
    all_goals exact A9 Tryz.results164
 ·rw [fR h1]
  rw [fW h1] at c1
  have c2:=f7_ c { x with pool:=p,scans:=false } t nt wn op m n
  generalize againT c { x with pool:=p,scans:=false }=y at *
  refine ZEN Tryz.func164 Tryz.ntmps164 ?_
  repeat' (first|refine Du ?_|refine uS 38 (fun hb=>?_) (fun hb=>?_)|refine ZK2 (fun hc=>?_) (fun hc=>?_)|fail)
  all_goals exact A9 Tryz.results164
theorem IX (hi:0≤x.i∧x.i≤64):Cio Tryz.prog 172 [.ptr 0 0] (RO c x t nt wn op m n) (.tup []) (RO c (nextSeqT c x) t nt wn op m n):=by
 unfold nextSeqT
 by_cases h1:x.i+1=c.threads
 ·rw [fR h1]
  refine ZEN Tryz.func172 Tryz.ntmps172 ?_
  repeat' (first|refine uA ?_|refine uR ?_|refine uC ?_|refine AW.drawU (id:=2) mixed 0 qR ?_|refine ZK2 (fun hc=>?_) (fun hc=>?_)|fail)
  all_goals exact A9 Tryz.results172
 ·rw [fT h1]
  refine ZEN Tryz.func172 Tryz.ntmps172 ?_
  repeat' (first|refine uA ?_|refine uR ?_|refine uC ?_|refine AW.drawU (id:=2) mixed 0 qR ?_|refine ZK2 (fun hc=>?_) (fun hc=>?_)|fail)
  all_goals exact A9 Tryz.results172
theorem IZ (hp:x.pool.free.length+x.pool.old.length≤5864062014804):Cio Tryz.prog 189 [.ptr 0 0] (RO c x t nt wn op m n) (.tup []) (RO c (scannedT c x) t nt wn op m n):=by
 have c1:=v5_ c x t nt wn op m n hp
 unfold scannedT
 generalize takeT c x=y at *
 unfold RO rB at c1 ⊢
 dsimp only at c1 ⊢
 cases hs:x.scans
 ·rw [fT (by simp)]
  refine ZEN Tryz.func189 Tryz.ntmps189 ?_
  repeat' (first|refine A0 ?_|refine ZK2 (fun hc=>?_) (fun hc=>?_)|fail)
  all_goals exact A9 Tryz.results189
 ·rw [fR rfl]
  rw [hs] at c1
  refine ZEN Tryz.func189 Tryz.ntmps189 ?_
  repeat' (first|(refine ZAL ?_;first|refine uA ?_|refine uI [0,1,2,3,4] (c1) ?_)|refine uC ?_|refine ZK2 (fun hc=>?_) (fun hc=>?_)|fail)
  all_goals exact A9 Tryz.results189
theorem OX:Cio Tryz.prog 192 [.ptr 0 0] (RO c x t nt wn op m n) (.tup []) (RO c (finishT x) t 3 wn op m n):=by
 unfold finishT AK
 refine ZEN Tryz.func192 Tryz.ntmps192 ?_
 repeat' (first|refine C1 ?_|refine ZK2 (fun hc=>?_) (fun hc=>?_)|fail)
 all_goals exact A4 Tryz.results192
end
end
section
structure TK (c:AB) (t:Nat) (x:AC) (m:Mm) (n:Nat):Prop where
 f:Okc c
 hs:c.start.length≤1152921504606846976
 K:MK m n
 nn:(n:Int)=totL c
 ht:(t:Int)<c.threads
 lc:AQ c x
 r:RgT 1048576 x
 wu:okU m.w
 gl:0≤ld m 1∧ld m 1≤1048576
 ow:x.pool.own.tag≠0→(1≤x.pool.own.tag∧x.pool.own.tag≤4294967295)∧0≤x.pool.own.index∧x.pool.own.index<nodesL c
 ba:Rdg x→0≤x.base.index∧x.base.index<nodesL c∧0≤x.base.tag∧x.base.tag≤4294967296
 sg:x.pc=25∨x.pc=26→0≤x.word∧x.word≤1048576
section
variable {c:AB} {t:Nat} {x:AC} {m:Mm} {n:Nat}
theorem TK.t64 (k:TK c t x m n):t<64:=by have:=k.f.facts;have:=k.ht;omega
theorem TK.t01 (k:TK c t x m n):0≤(t:Int)∧(t:Int)<c.threads:=⟨by omega,k.ht⟩
theorem TK.lo (k:TK c t x m n) {a:Int} (h0:0≤a) (h1:a<3+c.threads*9):0≤a∧a<n:=by
 have hf:=k.f.facts
 have ht:=k.f.tot
 have hz:0≤nodesL c*(1+sizeC c):=jZ (by omega) (by omega)
 have:=k.nn
 omega
theorem TK.nd (k:TK c t x m n) {i q:Int} (h0:0≤i) (h1:i<nodesL c) (q0:0≤q) (q1:q≤sizeC c):0≤aNode c i+q∧aNode c i+q<n:=by
 have hn:=CI k.f h0 h1 q0 q1
 have hf:=k.f.facts
 have:=k.nn
 omega
theorem TK.nd0 (k:TK c t x m n) {i:Int} (h0:0≤i) (h1:i<nodesL c):0≤aNode c i∧aNode c i<n:=by
 have:=k.nd h0 h1 (gL 0) (by have:=k.f.facts;omega)
 rwa [nD] at this
theorem TK.po (k:TK c t x m n):x.pool.free.length+x.pool.old.length≤5864062014804:=by have:=k.r.po;omega
theorem TK.rd (k:TK c t x m n):0≤x.round∧x.round≤1048577:=by have:=k.r.rd;omega
theorem BaQ (k:TK c t x m n) (hp:x.pc=1):Cio Tryz.prog 121 [.ptr 0 0] (RO c x t 0 false [] m n) (.tup []) (RO c (s1 c t x m).x t (s1 c t x m).note (s1 c t x m).won (s1 c t x m).ops (s1 c t x m).m n):=by
 have hf:=k.f.facts
 have ht:=k.ht
 have c1:=BY c x t 0 false [] m n k.K k.t64 (1) (k.lo (by decide) (by omega))
 have g:=k.gl
 unfold s1
 dsimp only
 generalize ldM m t 1=m' at *
 refine Bj ?_
 repeat' (first|(refine ZAL ?_;first|refine uA ?_|refine uI [0,1,2,3,4] (c1) ?_)|(refine ZRG ?_;first|refine uR ?_|refine uJ1 0 [1,2,3,4] (c1) ?_)|refine uC ?_|refine C3 ?_|refine ZK2 (fun hc=>?_) (fun hc=>?_)|fail)
 all_goals exact A4 Tryz.results121
theorem BaR (k:TK c t x m n) (hp:x.pc=2):Cio Tryz.prog 121 [.ptr 0 0] (RO c x t 0 false [] m n) (.tup []) (RO c (s2 c t x m).x t (s2 c t x m).note (s2 c t x m).won (s2 c t x m).ops (s2 c t x m).m n):=by
 have hf:=k.f.facts
 have ht:=k.ht
 have ce:=RT k.f k.t01
 have cp:=TH x.epoch (by have:=k.r.ep;omega)
 have c1:=DK c x t 0 false [] m n k.K k.t64 (aEpo c t) (GM x.epoch) (k.lo bZ bZ)
 unfold s2
 dsimp only
 generalize stM m t (aEpo c t) (GM x.epoch)=m' at *
 have c2:=v5_ c x t 0 false [] m' n k.po
 refine Bj ?_
 repeat' (first|(refine ZAL ?_;first|refine uA ?_|refine uI [0,1,2,3,4] (c2) ?_)|(refine ZRG ?_;first|refine uR ?_|refine AT (ce) ?_|refine AT (cp) ?_|refine uJ1 0 [1,2,3,4] (c1) ?_)|refine uC ?_|refine C3 ?_|refine ZK2 (fun hc=>?_) (fun hc=>?_)|fail)
 all_goals exact A4 Tryz.results121
theorem BaS (k:TK c t x m n) (hp:x.pc=3):Cio Tryz.prog 121 [.ptr 0 0] (RO c x t 0 false [] m n) (.tup []) (RO c (s3 c t x m).x t (s3 c t x m).note (s3 c t x m).won (s3 c t x m).ops (s3 c t x m).m n):=by
 have hf:=k.f.facts
 have ht:=k.ht
 have c1:=BY c x t 0 false [] m n k.K k.t64 (0) (k.lo (by decide) (by omega))
 have cr:=n7_ (ld m 0) (MN k.wu 0).1 (by have:=MN k.wu 0;omega)
 unfold s3 rdF
 dsimp only
 generalize ldM m t 0=m' at *
 refine Bj ?_
 repeat' (first|(refine ZAL ?_;first|refine uA ?_|refine uI [0,1,2,3,4] (c1) ?_|refine uK (cr) ?_)|(refine ZRG ?_;first|refine uR ?_|refine uJ1 0 [1,2,3,4] (c1) ?_)|refine uC ?_|refine C3 ?_|refine ZK2 (fun hc=>?_) (fun hc=>?_)|fail)
 all_goals exact A4 Tryz.results121
theorem BaT (k:TK c t x m n) (hp:x.pc=4):Cio Tryz.prog 121 [.ptr 0 0] (RO c x t 0 false [] m n) (.tup []) (RO c (s4 c t x m).x t (s4 c t x m).note (s4 c t x m).won (s4 c t x m).ops (s4 c t x m).m n):=by
 have hf:=k.f.facts
 have ht:=k.ht
 have ce:=RU k.f k.t01
 have cw:Cd Tryz.prog 92 [.agg [i64 x.base.index,i64 x.base.tag]] (u64 (wdF x.base)) []:=LW _ _
 have c1:=DK c x t 0 false [] m n k.K k.t64 (aHaz c t) (wdF x.base) (k.lo bY bY)
 unfold s4
 dsimp only
 generalize stM m t (aHaz c t) (wdF x.base)=m' at *
 refine Bj ?_
 repeat' (first|refine uA ?_|(refine ZRG ?_;first|refine uR ?_|refine uJ1 0 [1,2,3,4] (c1) ?_|refine AT (ce) ?_|refine AT (cw) ?_)|refine uC ?_|refine C3 ?_|refine ZK2 (fun hc=>?_) (fun hc=>?_)|fail)
 all_goals exact A4 Tryz.results121
theorem BaU (k:TK c t x m n) (hp:x.pc=5):Cio Tryz.prog 121 [.ptr 0 0] (RO c x t 0 false [] m n) (.tup []) (RO c (s5 c t x m).x t (s5 c t x m).note (s5 c t x m).won (s5 c t x m).ops (s5 c t x m).m n):=by
 have hf:=k.f.facts
 have ht:=k.ht
 have c1:=BY c x t 0 false [] m n k.K k.t64 (0) (k.lo (by decide) (by omega))
 have cw:Cd Tryz.prog 92 [.agg [i64 x.base.index,i64 x.base.tag]] (u64 (wdF x.base)) []:=LW _ _
 unfold s5
 dsimp only
 generalize ldM m t 0=m' at *
 have c2:=YU c x t 0 false [] m' n k.rd
 generalize failT c x=y at *
 by_cases h:ld m 0=wdF x.base
 ·rw [fR h]
  refine Bj ?_
  repeat' (first|refine F7 ?_|refine ZK2 (fun hc=>?_) (fun hc=>?_)|fail)
  all_goals exact A4 Tryz.results121
 ·rw [fT h]
  refine Bj ?_
  repeat' (first|refine F7 ?_|refine ZK2 (fun hc=>?_) (fun hc=>?_)|fail)
  all_goals exact A4 Tryz.results121
end
end
end
end Go.Proofs.YtccefppppedgkaaGreat
