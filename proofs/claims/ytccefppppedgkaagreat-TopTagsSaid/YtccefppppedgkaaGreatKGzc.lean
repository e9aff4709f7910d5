/- Joined: XTTaskC. -/
import Derived.Test.YtccefppppedgkaaGreatKGzb
set_option linter.unusedVariables false
set_option linter.unusedSimpArgs false
set_option linter.unnecessarySimpa false
set_option maxRecDepth 100000
set_option maxHeartbeats 64000000
namespace Go.Proofs.YtccefppppedgkaaGreat
open Go.RowKit
section
attribute [local irreducible] AL AW RG Fin C Cd Cio AI AF AN
section
structure TK (c:AB) (t:Nat) (x:AC) (m:Mm) (n:Nat):Prop where
 f:Okc c
 hs:c.start.length≤1152921504606846976
 K:MK m n
 nn:(n:Int)=totL c
 ht:(t:Int)<c.threads
 lc:AQ c x
 r:RgT 1048576 x
 wu:okU m.w
 gl:0≤ld m 1∧ld m 1≤1048576
 ow:x.pool.own.tag≠0→(1≤x.pool.own.tag∧x.pool.own.tag≤4294967295)∧0≤x.pool.own.index∧x.pool.own.index<nodesL c
 ba:Rdg x→0≤x.base.index∧x.base.index<nodesL c∧0≤x.base.tag∧x.base.tag≤4294967296
 sg:x.pc=25∨x.pc=26→0≤x.word∧x.word≤1048576
section
variable {c:AB} {t:Nat} {x:AC} {m:Mm} {n:Nat}
theorem TK.t64 (k:TK c t x m n):t<64:=by have:=k.f.facts;have:=k.ht;omega
theorem TK.t01 (k:TK c t x m n):0≤(t:Int)∧(t:Int)<c.threads:=⟨by omega,k.ht⟩
theorem TK.lo (k:TK c t x m n) {a:Int} (h0:0≤a) (h1:a<3+c.threads*9):0≤a∧a<n:=by
 have hf:=k.f.facts
 have ht:=k.f.tot
 have hz:0≤nodesL c*(1+sizeC c):=jW (by omega) (by omega)
 have:=k.nn
 omega
theorem TK.nd (k:TK c t x m n) {i q:Int} (h0:0≤i) (h1:i<nodesL c) (q0:0≤q) (q1:q≤sizeC c):0≤aNode c i+q∧aNode c i+q<n:=by
 have hn:=EX k.f h0 h1 q0 q1
 have hf:=k.f.facts
 have:=k.nn
 omega
theorem TK.nd0 (k:TK c t x m n) {i:Int} (h0:0≤i) (h1:i<nodesL c):0≤aNode c i∧aNode c i<n:=by
 have:=k.nd h0 h1 (gG 0) (by have:=k.f.facts;omega)
 rwa [Int.add_zero] at this
theorem TK.po (k:TK c t x m n):x.pool.free.length+x.pool.old.length≤5864062014804:=by have:=k.r.po;omega
theorem TK.rd (k:TK c t x m n):0≤x.round∧x.round≤1048577:=by have:=k.r.rd;omega
theorem AyC (k:TK c t x m n) (hp:x.pc=1):Cio Tryz.prog 121 [.ptr 0 0] (RO c x t 0 false [] m n) (.tup []) (RO c (s1 c t x m).x t (s1 c t x m).note (s1 c t x m).won (s1 c t x m).ops (s1 c t x m).m n):=by
 have hf:=k.f.facts
 have ht:=k.ht
 have c1:=BW c x t 0 false [] m n k.K k.t64 (1) (k.lo (by decide) (by omega))
 have g:=k.gl
 unfold s1
 dsimp only
 generalize ldM m t 1=m' at *
 refine B8 ?_
 repeat' (first|(refine ZAL ?_;first|refine uA ?_|refine uI [0,1,2,3,4] (c1) ?_)|(refine ZRG ?_;first|refine uR ?_|refine uJ1 0 [1,2,3,4] (c1) ?_)|refine uC ?_|refine Bu ?_|refine ZK2 (fun hc=>?_) (fun hc=>?_)|fail)
 all_goals exact A3 Tryz.results121
theorem AyD (k:TK c t x m n) (hp:x.pc=2):Cio Tryz.prog 121 [.ptr 0 0] (RO c x t 0 false [] m n) (.tup []) (RO c (s2 c t x m).x t (s2 c t x m).note (s2 c t x m).won (s2 c t x m).ops (s2 c t x m).m n):=by
 have hf:=k.f.facts
 have ht:=k.ht
 have ce:=QM k.f k.t01
 have cp:=RY x.epoch (by have:=k.r.ep;omega)
 have c1:=DF c x t 0 false [] m n k.K k.t64 (aEpo c t) (GE x.epoch) (k.lo dL dL)
 unfold s2
 dsimp only
 generalize stM m t (aEpo c t) (GE x.epoch)=m' at *
 have c2:=r2_ c x t 0 false [] m' n k.po
 refine B8 ?_
 repeat' (first|(refine ZAL ?_;first|refine uA ?_|refine uI [0,1,2,3,4] (c2) ?_)|(refine ZRG ?_;first|refine uR ?_|refine AZ (ce) ?_|refine AZ (cp) ?_|refine uJ1 0 [1,2,3,4] (c1) ?_)|refine uC ?_|refine Bu ?_|refine ZK2 (fun hc=>?_) (fun hc=>?_)|fail)
 all_goals exact A3 Tryz.results121
theorem AyE (k:TK c t x m n) (hp:x.pc=3):Cio Tryz.prog 121 [.ptr 0 0] (RO c x t 0 false [] m n) (.tup []) (RO c (s3 c t x m).x t (s3 c t x m).note (s3 c t x m).won (s3 c t x m).ops (s3 c t x m).m n):=by
 have hf:=k.f.facts
 have ht:=k.ht
 have c1:=BW c x t 0 false [] m n k.K k.t64 (0) (k.lo (by decide) (by omega))
 have cr:=AfT (ld m 0) (PM k.wu 0).1 (by have:=PM k.wu 0;omega)
 unfold s3 rdF
 dsimp only
 generalize ldM m t 0=m' at *
 refine B8 ?_
 repeat' (first|(refine ZAL ?_;first|refine uA ?_|refine uI [0,1,2,3,4] (c1) ?_|refine uK (cr) ?_)|(refine ZRG ?_;first|refine uR ?_|refine uJ1 0 [1,2,3,4] (c1) ?_)|refine uC ?_|refine Bu ?_|refine ZK2 (fun hc=>?_) (fun hc=>?_)|fail)
 all_goals exact A3 Tryz.results121
theorem AyF (k:TK c t x m n) (hp:x.pc=4):Cio Tryz.prog 121 [.ptr 0 0] (RO c x t 0 false [] m n) (.tup []) (RO c (s4 c t x m).x t (s4 c t x m).note (s4 c t x m).won (s4 c t x m).ops (s4 c t x m).m n):=by
 have hf:=k.f.facts
 have ht:=k.ht
 have ce:=QN k.f k.t01
 have cw:Cd Tryz.prog 92 [.agg [i64 x.base.index,i64 x.base.tag]] (u64 (wdF x.base)) []:=LG _ _
 have c1:=DF c x t 0 false [] m n k.K k.t64 (aHaz c t) (wdF x.base) (k.lo dK dK)
 unfold s4
 dsimp only
 generalize stM m t (aHaz c t) (wdF x.base)=m' at *
 refine B8 ?_
 repeat' (first|refine uA ?_|(refine ZRG ?_;first|refine uR ?_|refine uJ1 0 [1,2,3,4] (c1) ?_|refine AZ (ce) ?_|refine AZ (cw) ?_)|refine uC ?_|refine Bu ?_|refine ZK2 (fun hc=>?_) (fun hc=>?_)|fail)
 all_goals exact A3 Tryz.results121
theorem AyG (k:TK c t x m n) (hp:x.pc=5):Cio Tryz.prog 121 [.ptr 0 0] (RO c x t 0 false [] m n) (.tup []) (RO c (s5 c t x m).x t (s5 c t x m).note (s5 c t x m).won (s5 c t x m).ops (s5 c t x m).m n):=by
 have hf:=k.f.facts
 have ht:=k.ht
 have c1:=BW c x t 0 false [] m n k.K k.t64 (0) (k.lo (by decide) (by omega))
 have cw:Cd Tryz.prog 92 [.agg [i64 x.base.index,i64 x.base.tag]] (u64 (wdF x.base)) []:=LG _ _
 unfold s5
 dsimp only
 generalize ldM m t 0=m' at *
 have c2:=XJ c x t 0 false [] m' n k.rd
 generalize failT c x=y at *
 by_cases h:ld m 0=wdF x.base
 ·rw [fL h]
  refine B8 ?_
  repeat' (first|refine Er ?_|refine ZK2 (fun hc=>?_) (fun hc=>?_)|fail)
  all_goals exact A3 Tryz.results121
 ·rw [fM h]
  refine B8 ?_
  repeat' (first|refine Er ?_|refine ZK2 (fun hc=>?_) (fun hc=>?_)|fail)
  all_goals exact A3 Tryz.results121
end
end
end
end Go.Proofs.YtccefppppedgkaaGreat
