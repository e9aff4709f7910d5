/- Joined: XTTaskS. -/
import Derived.Test.YtccefppppedgkaaGreatKHzk
import Derived.Test.YtccefppppedgkaaGreatKHzl
import Derived.Test.YtccefppppedgkaaGreatKHzn
import Derived.Test.YtccefppppedgkaaGreatKHzm
set_option linter.unusedVariables false
set_option linter.unusedSimpArgs false
set_option linter.unnecessarySimpa false
set_option maxRecDepth 100000
set_option maxHeartbeats 64000000
namespace Go.Proofs.YtccefppppedgkaaGreat
open Go.RowKit
section
attribute [local irreducible] AL AW RG Fin C Cd Cio AI AF AO
section
abbrev fTk (x:AC):AV:=.agg [i64 x.pc,i64 x.seq,i64 x.req.kind,i64 x.req.arg,i64 x.req.value,bo x.req.dflt,.t (.lst (x.req.cases.map tCs)),bo x.slow,i64 x.round,i64 x.i,i64 x.j,i64 x.tri,i64 x.epoch,bo x.all_,i64 x.base.index,i64 x.base.tag,
   .t (.lst (x.buf.map tU)),.t (.lst (x.nxt.map tU)),u64 x.word,.t (.lst (x.args.map tU)),.t (.lst (x.found.map tOp)),.t (.lst (x.seen.map tU)),
   i64 x.pool.own.index,i64 x.pool.own.tag,.t (.lst (x.pool.free.map tSl)),.t (.lst (x.pool.old.map tOd)),i64 x.pool.spent,i64 x.res.seq,i64 x.res.cas,i64 x.res.code,i64 x.res.value,bo x.won,bo x.waits,bo x.scans]
abbrev BcE (o:SO):AV:=.agg [i64 o.note,bo o.won,.t (.lst (o.ops.map tOp))]
abbrev RSo (c:AB) (t:Nat) (o:SO) (n:Nat):List Ob:=RO c o.x t o.note o.won o.ops o.m n
section
variable {c:AB} {t:Nat} {x:AC} {m:Mm} {n:Nat}
theorem AeQ (k:TK c t x m n) (hp:1≤x.pc∧x.pc≤5):Cio Tryz.prog 121 [.ptr 0 0] (RO c x t 0 false [] m n) (.tup []) (RSo c t (stepT c t x m) n):=by
 have hh:x.pc=1∨x.pc=2∨x.pc=3∨x.pc=4∨x.pc=5:=by omega
 rcases hh with h|h|h|h|h
 ·rw [AE (k:=1) (by omega)];exact BaQ k h
 ·rw [AE (k:=2) (by omega)];exact BaR k h
 ·rw [AE (k:=3) (by omega)];exact BaS k h
 ·rw [AE (k:=4) (by omega)];exact BaT k h
 ·rw [AE (k:=5) (by omega)];exact BaU k h
theorem AaE (k:TK c t x m n) (hp:6≤x.pc∧x.pc≤7):Cio Tryz.prog 122 [.ptr 0 0] (RO c x t 0 false [] m n) (.tup []) (RSo c t (stepT c t x m) n):=by
 have hh:x.pc=6∨x.pc=7:=by omega
 rcases hh with h|h
 ·rw [AE (k:=6) (by omega)];exact BaV k h
 ·rw [AE (k:=7) (by omega)];exact BaW k h
theorem AaF (k:TK c t x m n) (hp:8≤x.pc∧x.pc≤10):Cio Tryz.prog 123 [.ptr 0 0] (RO c x t 0 false [] m n) (.tup []) (RSo c t (stepT c t x m) n):=by
 have hh:x.pc=8∨x.pc=9∨x.pc=10:=by omega
 rcases hh with h|h|h
 ·rw [AE (k:=8) (by omega)];exact BaX k h
 ·rw [AE (k:=9) (by omega)];exact BaY k h
 ·rw [AE (k:=10) (by omega)];exact AuI k h
theorem l2_ (k:TK c t x m n) (hp:11≤x.pc∧x.pc≤12):Cio Tryz.prog 124 [.ptr 0 0] (RO c x t 0 false [] m n) (.tup []) (RSo c t (stepT c t x m) n):=by
 have hh:x.pc=11∨x.pc=12:=by omega
 rcases hh with h|h
 ·rw [AE (k:=11) (by omega)];exact AuJ k h
 ·rw [AE (k:=12) (by omega)];exact AuK k h
theorem AaH (k:TK c t x m n) (hp:13≤x.pc∧x.pc≤15):Cio Tryz.prog 125 [.ptr 0 0] (RO c x t 0 false [] m n) (.tup []) (RSo c t (stepT c t x m) n):=by
 have hh:x.pc=13∨x.pc=14∨x.pc=15:=by omega
 rcases hh with h|h|h
 ·rw [AE (k:=13) (by omega)];exact AuL k h
 ·rw [AE (k:=14) (by omega)];exact AuM k h
 ·rw [AE (k:=15) (by omega)];exact AuN k h
theorem b8_ (k:TK c t x m n) (hp:16≤x.pc∧x.pc≤19):Cio Tryz.prog 126 [.ptr 0 0] (RO c x t 0 false [] m n) (.tup []) (RSo c t (stepT c t x m) n):=by
 have hh:x.pc=16∨x.pc=17∨x.pc=18∨x.pc=19:=by omega
 rcases hh with h|h|h|h
 ·rw [AE (k:=16) (by omega)];exact AuO k h
 ·rw [AE (k:=17) (by omega)];exact AuP k h
 ·rw [AE (k:=18) (by omega)];exact AuQ k h
 ·rw [AE (k:=19) (by omega)];exact AuR k h
theorem AlG (k:TK c t x m n) (hp:20≤x.pc∧x.pc≤23):Cio Tryz.prog 127 [.ptr 0 0] (RO c x t 0 false [] m n) (.tup []) (RSo c t (stepT c t x m) n):=by
 have hh:x.pc=20∨x.pc=21∨x.pc=22∨x.pc=23:=by omega
 rcases hh with h|h|h|h
 ·rw [AE (k:=20) (by omega)];exact AuS k h
 ·rw [AE (k:=21) (by omega)];exact AuT k h
 ·rw [AE (k:=22) (by omega)];exact AuU k h
 ·rw [AE (k:=23) (by omega)];exact AuV k h
theorem l3_ (k:TK c t x m n) (hp:24≤x.pc∧x.pc≤27):Cio Tryz.prog 128 [.ptr 0 0] (RO c x t 0 false [] m n) (.tup []) (RSo c t (stepT c t x m) n):=by
 have hh:x.pc=24∨x.pc=25∨x.pc=26∨x.pc=27:=by omega
 rcases hh with h|h|h|h
 ·rw [AE (k:=24) (by omega)];exact AuW k h
 ·rw [AE (k:=25) (by omega)];exact AuX k h
 ·rw [AE (k:=26) (by omega)];exact AuY k h
 ·rw [AE (k:=27) (by omega)];exact AuZ k h
theorem AeS (k:TK c t x m n) (hp:28≤x.pc∧x.pc≤28):Cio Tryz.prog 129 [.ptr 0 0] (RO c x t 0 false [] m n) (.tup []) (RSo c t (stepT c t x m) n):=by
 have h:x.pc=28:=by omega
 rw [AE (k:=28) (by omega)];exact AvA k h
theorem AeT (k:TK c t x m n) (hp:35≤x.pc∧x.pc≤38):Cio Tryz.prog 194 [.ptr 0 0] (RO c x t 0 false [] m n) (.tup []) (RSo c t (stepT c t x m) n):=by
 have hh:x.pc=35∨x.pc=36∨x.pc=37∨x.pc=38:=by omega
 rcases hh with h|h|h|h
 ·rw [AE (k:=35) (by omega)];exact AvH k h
 ·rw [AE (k:=36) (by omega)];exact AvI k h
 ·rw [AE (k:=37) (by omega)];exact AvJ k h
 ·rw [AE (k:=38) (by omega)];exact AvK k h
theorem AeU (k:TK c t x m n) (hp:29≤x.pc∧x.pc≤38):Cio Tryz.prog 130 [.ptr 0 0] (RO c x t 0 false [] m n) (.tup []) (RSo c t (stepT c t x m) n):=by
 by_cases hq:x.pc≤34
 ·have hh:x.pc=29∨x.pc=30∨x.pc=31∨x.pc=32∨x.pc=33∨x.pc=34:=by omega
  rcases hh with h|h|h|h|h|h
  ·rw [AE (k:=29) (by omega)];exact AvB k h
  ·rw [AE (k:=30) (by omega)];exact AvC k h
  ·rw [AE (k:=31) (by omega)];exact AvD k h
  ·rw [AE (k:=32) (by omega)];exact AvE k h
  ·rw [AE (k:=33) (by omega)];exact AvF k h
  ·rw [AE (k:=34) (by omega)];exact AvG k h
 ·have c1:=AeT k ⟨by omega,hp.2⟩
  generalize stepT c t x m=o at *
  refine Ax ?_
  repeat' (first|(refine ZAL ?_;first|refine uA ?_|refine uI [0,1,2,3,4] (c1) ?_)|refine uR ?_|refine uC ?_|refine Bb ?_|refine ZK2 (fun hc=>?_) (fun hc=>?_)|fail)
  all_goals exact A9 Tryz.results130
theorem AgQ (n ln cn:Nat) (l:List Int) (lg:List KQ) (ct:List Int) (hn:l.length=n) (h0:0<n):Cio Tryz.prog 120 [.ptr 0 0] [mD n ln cn,mR 0 l,mL lg ln,mC ct cn] (i64 n) [mD n ln cn,mR 0 l,mL lg ln,mC ct cn]:=by
 have c1:=d7_ n ln cn l lg ct hn h0
 refine ZEN Tryz.func120 Tryz.ntmps120 ?_
 repeat' (first|refine Bf ?_|refine ZK2 (fun hc=>?_) (fun hc=>?_)|fail)
 all_goals exact A3 Tryz.results120
theorem RJ (k:TK c t x m n) (h0:x.pc≠0):Cio Tryz.prog 86 [fCf c,.ptr 0 0,i64 t,fTk x] (MO m n) (.tup [fTk (stepT c t x m).x,BcE (stepT c t x m)]) (MO (stepT c t x m).m n):=by
 have hf:=k.f.facts
 have ht:=k.ht
 have hp0:=k.lc.pc0
 have hp1:=k.lc.le
 have c0:=AgQ n m.log.length m.cnt.length m.w m.log m.cnt k.K.wl k.K.n0
 have ct:=o9_ c k.hs
 rw [←k.nn] at ct
 have g1:=fun h=>AeQ k h
 have g2:=fun h=>AaE k h
 have g3:=fun h=>AaF k h
 have g4:=fun h=>l2_ k h
 have g5:=fun h=>AaH k h
 have g6:=fun h=>b8_ k h
 have g7:=fun h=>AlG k h
 have g8:=fun h=>l3_ k h
 have g9:=fun h=>AeS k h
 have g10:=fun h=>AeU k h
 clear k
 generalize stepT c t x m=o at *
 have hh:(1≤x.pc∧x.pc≤5)∨(6≤x.pc∧x.pc≤7)∨(8≤x.pc∧x.pc≤10)∨(11≤x.pc∧x.pc≤12)∨(13≤x.pc∧x.pc≤15)∨(16≤x.pc∧x.pc≤19)∨(20≤x.pc∧x.pc≤23)∨(24≤x.pc∧x.pc≤27)∨(28≤x.pc∧x.pc≤28)∨(29≤x.pc∧x.pc≤38):=by omega
 rcases hh with h|h|h|h|h|h|h|h|h|h
 ·have c1:=g1 h
  refine Ao ?_
  repeat' (first|refine Ap ?_|refine ZK2 (fun hc=>?_) (fun hc=>?_)|fail)
  all_goals exact Aq Tryz.results86
 ·have c1:=g2 h
  refine Ao ?_
  repeat' (first|refine Ap ?_|refine ZK2 (fun hc=>?_) (fun hc=>?_)|fail)
  all_goals exact Aq Tryz.results86
 ·have c1:=g3 h
  refine Ao ?_
  repeat' (first|refine Ap ?_|refine ZK2 (fun hc=>?_) (fun hc=>?_)|fail)
  all_goals exact Aq Tryz.results86
 ·have c1:=g4 h
  refine Ao ?_
  repeat' (first|refine Ap ?_|refine ZK2 (fun hc=>?_) (fun hc=>?_)|fail)
  all_goals exact Aq Tryz.results86
 ·have c1:=g5 h
  refine Ao ?_
  repeat' (first|refine Ap ?_|refine ZK2 (fun hc=>?_) (fun hc=>?_)|fail)
  all_goals exact Aq Tryz.results86
 ·have c1:=g6 h
  refine Ao ?_
  repeat' (first|refine Ap ?_|refine ZK2 (fun hc=>?_) (fun hc=>?_)|fail)
  all_goals exact Aq Tryz.results86
 ·have c1:=g7 h
  refine Ao ?_
  repeat' (first|refine Ap ?_|refine ZK2 (fun hc=>?_) (fun hc=>?_)|fail)
  all_goals exact Aq Tryz.results86
 ·have c1:=g8 h
  refine Ao ?_
  repeat' (first|refine Ap ?_|refine ZK2 (fun hc=>?_) (fun hc=>?_)|fail)
  all_goals exact Aq Tryz.results86
 ·have c1:=g9 h
  refine Ao ?_
  repeat' (first|refine Ap ?_|refine ZK2 (fun hc=>?_) (fun hc=>?_)|fail)
  all_goals exact Aq Tryz.results86
 ·have c1:=g10 h
  refine Ao ?_
  repeat' (first|refine Ap ?_|refine ZK2 (fun hc=>?_) (fun hc=>?_)|fail)
  all_goals exact Aq Tryz.results86
end
end
end
end Go.Proofs.YtccefppppedgkaaGreat
