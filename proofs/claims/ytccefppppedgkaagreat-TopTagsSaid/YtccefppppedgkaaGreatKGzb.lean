/- Joined: XTTaskB. -/
import Derived.Test.YtccefppppedgkaaGreatKGz
set_option linter.unusedVariables false
set_option linter.unusedSimpArgs false
set_option linter.unnecessarySimpa false
set_option maxRecDepth 100000
set_option maxHeartbeats 64000000
namespace Go.Proofs.YtccefppppedgkaaGreat
open Go.RowKit
section
attribute [local irreducible] AL AW RG Fin C Cd Cio AI AF AN
section
section
variable (c:AB) (x:AC) (t:Nat) (nt:Int) (wn:Bool) (op:List DOp) (m:Mm) (n:Nat)
theorem XH (hs:c.start.length≤1152921504606846976) (l:List Int) (u:Int) (hU:okU l) (hl:l.length≤1152921504606846976) :
  Cio Tryz.prog 170 [.ptr 0 0,.ln (l.map tU),i64 u] (RO c x t nt wn op m n) (aR (readR (doneL c l u))) (RO c x t nt wn op m n):=by
 have c1:=WG c hs l u hl
 have c2:=GL (doneL c l u) (PQ hU u)
 refine ZEN Tryz.func170 Tryz.ntmps170 ?_
 repeat' (first|refine Ai ?_|refine ZK2 (fun hc=>?_) (fun hc=>?_)|fail)
 all_goals first|(exfalso;omega)|((first|exact B7 Tryz.results170|refine Fin.q Tryz.results170 (.cons (.agg rfl rfl ud53 rfl inf53 (us:=[_,_,_,_]) rfl rfl) .nil) [] (hr:=(.t ?_))|refine De Tryz.results170 ?_ ?_ ?_<;>repeat' (first|exact ZE1|refine ZE2 ?_ ?_|refine ZE3 ?_|exact ZE4|fail)))
theorem II (f:Okc c) (hs:c.start.length≤1152921504606846976) (i g:Int) (h0:0≤i) (h1:i≤nodesL c) :
  Cio Tryz.prog 167 [.ptr 0 0,.agg [i64 i,i64 g]] (RO c x t nt wn op m n) (i64 (aNode c i)) (RO c x t nt wn op m n):=by
 have c1:=VV f hs h0 h1
 refine ZEN Tryz.func167 Tryz.ntmps167 ?_
 repeat' (first|refine uA ?_|(refine ZRG ?_;first|refine uR ?_|refine AZ (c1) ?_)|refine uC ?_|refine AW.drawU (id:=1) mixed 2 qR ?_|refine ZK2 (fun hc=>?_) (fun hc=>?_)|fail)
 all_goals first|(exfalso;omega)|((first|exact A5 Tryz.results167|refine A7 Tryz.results167 ?_|refine A8 Tryz.results167 ?_ ?_ ?_<;>repeat' (first|exact ZE1|refine ZE2 ?_ ?_|refine ZE3 ?_|exact ZE4|fail)))
theorem AnQ (f:Okc c) (hs:c.start.length≤1152921504606846976) :
  Cio Tryz.prog 169 [.ptr 0 0] (RO c x t nt wn op m n) (i64 (sizeC c)) (RO c x t nt wn op m n):=by
 have hf:=f.facts
 have hn:=EJ f.ok
 have c0:=VV f hs (i:=0) (by omega) (by omega)
 have c1:=VV f hs (i:=1) (by omega) (by omega)
 have e:aNode c 1=aNode c 0+1+sizeC c:=by unfold aNode;omega
 have e0:0≤aNode c 0∧aNode c 0≤1000:=by unfold aNode;omega
 rw [e] at c1
 generalize aNode c 0=a at *
 refine ZEN Tryz.func169 Tryz.ntmps169 ?_
 repeat' (first|refine uA ?_|(refine ZRG ?_;first|(refine kR 1802 rfl ?_;first|(first|refine uQ (c1) 0 ?_|refine uQ (c1) 1 ?_|refine uQ (c1) 2 ?_|refine uQ (c1) 3 ?_|refine uQ (c1) 4 ?_|refine uQ (c1) 5 ?_|refine uQ (c1) 6 ?_|refine uQ (c1) 7 ?_|refine uQ (c1) 8 ?_|refine uQ (c1) 9 ?_|refine uQ (c1) 10 ?_|refine uQ (c1) 11 ?_|refine uQ (c1) 12 ?_|refine uQ (c1) 13 ?_)|(first|refine uQ (c0) 0 ?_|refine uQ (c0) 1 ?_|refine uQ (c0) 2 ?_|refine uQ (c0) 3 ?_|refine uQ (c0) 4 ?_|refine uQ (c0) 5 ?_|refine uQ (c0) 6 ?_|refine uQ (c0) 7 ?_|refine uQ (c0) 8 ?_|refine uQ (c0) 9 ?_|refine uQ (c0) 10 ?_|refine uQ (c0) 11 ?_|refine uQ (c0) 12 ?_|refine uQ (c0) 13 ?_))|refine uR ?_)|refine uC ?_|refine AW.drawU (id:=1) mixed 4 qR ?_|refine ZK2 (fun hc=>?_) (fun hc=>?_)|fail)
 all_goals first|(exfalso;omega)|((first|exact A5 Tryz.results169|refine A7 Tryz.results169 ?_|refine A8 Tryz.results169 ?_ ?_ ?_<;>repeat' (first|exact ZE1|refine ZE2 ?_ ?_|refine ZE3 ?_|exact ZE4|fail)))
 all_goals (congr 2;omega)
theorem c_:Cio Tryz.prog 215 [.ptr 0 0] (RO c x t nt wn op m n) (.tup []) (RO c (againT c x) t nt wn op m n):=by
 unfold againT RO rB
 dsimp only
 cases hs:x.slow
 ·by_cases h1:c.patience<x.round
  ·rw [fL ⟨rfl,h1⟩]
   refine ZEN Tryz.func215 Tryz.ntmps215 ?_
   repeat' (first|refine Bs ?_|refine uS 36 (fun hb=>?_) (fun hb=>?_)|refine ZK2 (fun hc=>?_) (fun hc=>?_)|fail)
   all_goals exact A9 Tryz.results215
  ·rw [fM (fun e=>h1 e.2),fM (by simp)]
   refine ZEN Tryz.func215 Tryz.ntmps215 ?_
   repeat' (first|refine Bs ?_|refine uS 36 (fun hb=>?_) (fun hb=>?_)|refine ZK2 (fun hc=>?_) (fun hc=>?_)|fail)
   all_goals exact A9 Tryz.results215
 ·by_cases h1:3<x.round
  ·rw [fM (by simp),fL ⟨rfl,h1⟩]
   refine ZEN Tryz.func215 Tryz.ntmps215 ?_
   repeat' (first|refine Bs ?_|refine uS 36 (fun hb=>?_) (fun hb=>?_)|refine ZK2 (fun hc=>?_) (fun hc=>?_)|fail)
   all_goals exact A9 Tryz.results215
  ·rw [fM (by simp),fM (fun e=>h1 e.2)]
   refine ZEN Tryz.func215 Tryz.ntmps215 ?_
   repeat' (first|refine Bs ?_|refine uS 36 (fun hb=>?_) (fun hb=>?_)|refine ZK2 (fun hc=>?_) (fun hc=>?_)|fail)
   all_goals exact A9 Tryz.results215
theorem XJ (hr:0≤x.round∧x.round≤1048577):Cio Tryz.prog 166 [.ptr 0 0] (RO c x t nt wn op m n) (.tup []) (RO c (failT c x) t nt wn op m n):=by
 have c1:=c_ c { x with round:=x.round+1,found:=[]} t nt wn op m n
 unfold failT
 generalize againT c { x with round:=x.round+1,found:=[]}=y at *
 refine ZEN Tryz.func166 Tryz.ntmps166 ?_
 repeat' (first|(refine ZAL ?_;first|refine uA ?_|refine uI [0,1,2,3,4] (c1) ?_)|refine uC ?_|refine ZK2 (fun hc=>?_) (fun hc=>?_)|fail)
 all_goals exact A9 Tryz.results166
theorem VB:Cio Tryz.prog 216 [.ptr 0 0] (RO c x t nt wn op m n) (.tup []) (RO c (refuseT x) t nt wn op m n):=by
 have c1:=AtJ x.pool
 unfold refuseT
 generalize whyP x.pool=y at *
 refine ZEN Tryz.func216 Tryz.ntmps216 ?_
 repeat' (first|refine uA ?_|(refine ZRG ?_;first|refine uR ?_|refine AZ (c1) ?_)|refine uC ?_|refine AW.drawU (id:=0) mixed 2 qR ?_|refine ZK2 (fun hc=>?_) (fun hc=>?_)|fail)
 all_goals exact A9 Tryz.results216
theorem r2_ (hp:x.pool.free.length+x.pool.old.length≤5864062014804):Cio Tryz.prog 164 [.ptr 0 0] (RO c x t nt wn op m n) (.tup []) (RO c (takeT c x) t nt wn op m n):=by
 have c1:=AmA c.tags x.pool (by omega)
 have e1:(takeP c.tags x.pool).old=x.pool.old:=rfl
 unfold takeT
 dsimp only
 generalize takeP c.tags x.pool=p at *
 have e2:(p.old.map tOd).length=p.old.length:=fH _
 by_cases h1:p.own.tag=0
 ·rw [fM (by simpa using h1)]
  rw [fP (by simpa using h1)] at c1
  by_cases h2:p.old=[]
  ·rw [fM (fun e=>e.1 h2)]
   have h3:p.old.length=0:=by rw [h2];rfl
   have c2:=VB c { x with pool:=p } t nt wn op m n
   generalize refuseT { x with pool:=p }=y at *
   refine ZEN Tryz.func164 Tryz.ntmps164 ?_
   repeat' (first|refine Dh ?_|refine uS 38 (fun hb=>?_) (fun hb=>?_)|refine ZK2 (fun hc=>?_) (fun hc=>?_)|fail)
   all_goals exact A9 Tryz.results164
  ·have h3:0<p.old.length:=kQ.2 h2
   have c2:=VB c { x with pool:=p } t nt wn op m n
   generalize refuseT { x with pool:=p }=y at *
   unfold RO rB at c2 ⊢
   dsimp only at c2 ⊢
   cases hs:x.scans
   ·rw [hs] at c2
    rw [fL ⟨h2,rfl⟩]
    refine ZEN Tryz.func164 Tryz.ntmps164 ?_
    repeat' (first|refine uA ?_|(refine ZRG ?_;first|refine uR ?_|refine AZ (c1) ?_)|refine uC ?_|refine AW.drawU (id:=0) mixed 3 qR ?_|refine uS 38 (fun hb=>?_) (fun hb=>?_)|refine ZK2 (fun hc=>?_) (fun hc=>?_)|fail)
    all_goals exact A9 Tryz.results164
   ·rw [hs] at c2
    rw [fM (fun e=>by simp at e)]
    refine ZEN Tryz.func164 Tryz.ntmps164 ?_
    repeat' (first|refine Dh ?_|refine uS 38 (fun hb=>?_) (fun hb=>?_)|refine ZK2 (fun hc=>?_) (fun hc=>?_)|fail)
    all_goals exact A9 Tryz.results164
 ·rw [fL h1]
  rw [fR h1] at c1
  have c2:=c_ c { x with pool:=p,scans:=false } t nt wn op m n
  generalize againT c { x with pool:=p,scans:=false }=y at *
  refine ZEN Tryz.func164 Tryz.ntmps164 ?_
  repeat' (first|refine Dh ?_|refine uS 38 (fun hb=>?_) (fun hb=>?_)|refine ZK2 (fun hc=>?_) (fun hc=>?_)|fail)
  all_goals exact A9 Tryz.results164
theorem IG (hi:0≤x.i∧x.i≤64):Cio Tryz.prog 172 [.ptr 0 0] (RO c x t nt wn op m n) (.tup []) (RO c (nextSeqT c x) t nt wn op m n):=by
 unfold nextSeqT
 by_cases h1:x.i+1=c.threads
 ·rw [fL h1]
  refine ZEN Tryz.func172 Tryz.ntmps172 ?_
  repeat' (first|refine uA ?_|refine uR ?_|refine uC ?_|refine AW.drawU (id:=2) mixed 0 qR ?_|refine ZK2 (fun hc=>?_) (fun hc=>?_)|fail)
  all_goals exact A9 Tryz.results172
 ·rw [fM h1]
  refine ZEN Tryz.func172 Tryz.ntmps172 ?_
  repeat' (first|refine uA ?_|refine uR ?_|refine uC ?_|refine AW.drawU (id:=2) mixed 0 qR ?_|refine ZK2 (fun hc=>?_) (fun hc=>?_)|fail)
  all_goals exact A9 Tryz.results172
theorem IJ (hp:x.pool.free.length+x.pool.old.length≤5864062014804):Cio Tryz.prog 189 [.ptr 0 0] (RO c x t nt wn op m n) (.tup []) (RO c (scannedT c x) t nt wn op m n):=by
 have c1:=r2_ c x t nt wn op m n hp
 unfold scannedT
 generalize takeT c x=y at *
 unfold RO rB at c1 ⊢
 dsimp only at c1 ⊢
 cases hs:x.scans
 ·rw [fM (by simp)]
  refine ZEN Tryz.func189 Tryz.ntmps189 ?_
  repeat' (first|refine A0 ?_|refine ZK2 (fun hc=>?_) (fun hc=>?_)|fail)
  all_goals exact A9 Tryz.results189
 ·rw [fL rfl]
  rw [hs] at c1
  refine ZEN Tryz.func189 Tryz.ntmps189 ?_
  repeat' (first|(refine ZAL ?_;first|refine uA ?_|refine uI [0,1,2,3,4] (c1) ?_)|refine uC ?_|refine ZK2 (fun hc=>?_) (fun hc=>?_)|fail)
  all_goals exact A9 Tryz.results189
theorem OB:Cio Tryz.prog 192 [.ptr 0 0] (RO c x t nt wn op m n) (.tup []) (RO c (finishT x) t 3 wn op m n):=by
 unfold finishT AK
 refine ZEN Tryz.func192 Tryz.ntmps192 ?_
 repeat' (first|refine Bs ?_|refine ZK2 (fun hc=>?_) (fun hc=>?_)|fail)
 all_goals exact A3 Tryz.results192
end
end
end
end Go.Proofs.YtccefppppedgkaaGreat
