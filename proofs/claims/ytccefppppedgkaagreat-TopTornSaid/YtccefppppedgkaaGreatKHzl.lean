/- Joined: XTTaskF. -/
import Derived.Test.YtccefppppedgkaaGreatKHzj
set_option linter.unusedVariables false
set_option linter.unusedSimpArgs false
set_option linter.unnecessarySimpa false
set_option maxRecDepth 100000
set_option maxHeartbeats 64000000
namespace Go.Proofs.YtccefppppedgkaaGreat
open Go.RowKit
section
attribute [local irreducible] AL AW RG Fin C Cd Cio AI AF AO
section
section
variable {c:AB} {t:Nat} {x:AC} {m:Mm} {n:Nat}
theorem AuJ (k:TK c t x m n) (hp:x.pc=11):Cio Tryz.prog 124 [.ptr 0 0] (RO c x t 0 false [] m n) (.tup []) (RO c (s11 c t x m).x t (s11 c t x m).note (s11 c t x m).won (s11 c t x m).ops (s11 c t x m).m n):=by
 have hf:=k.f.facts
 have ht:=k.ht
 have ha:At c x 11:=by have:=k.lc.at_;rwa [hp] at this
 obtain ⟨-,⟨i0,i1⟩,bl⟩:=ha
 have cd:=XS c k.hs x.buf x.i (by omega)
 have hd:=QP (c:=c) k.r.bf x.i
 have ce:=GO k.f ⟨i0,i1⟩
 have c1:=BY c x t 0 false [] m n k.K k.t64 (aMail c x.i) (k.lo bO bO)
 have hw:=MN k.wu (aMail c x.i)
 unfold s11
 dsimp only
 generalize ldM m t (aMail c x.i)=m' at *
 generalize ld m (aMail c x.i)=w at *
 have cb:Cd Tryz.prog 178 [u64 w,u64 (doneL c x.buf x.i)] (bo (behindW w (doneL c x.buf x.i))) []:=WF w _ hw hd
 have c2:=QC c { x with word:=w } t 0 false [] m' n k.hs k.t64 ⟨i0,by dsimp only;omega⟩ (by have:=k.f.facts;omega) k.r.bf dS k.r.fo (by have:=k.r.fl;dsimp only;omega) (by have:=k.lc.seq;have:=k.f.facts;dsimp only;omega) (k.lc.fit (by omega))
 generalize nextMailT c t { x with word:=w }=y at *
 generalize behindW w (doneL c x.buf x.i)=b at *
 generalize doneL c x.buf x.i=dl at *
 cases b
 ·rw [fT (by simp)]
  refine Ce ?_
  repeat' (first|refine G2 ?_|refine uS 83 (fun hb=>?_) (fun hb=>?_)|refine ZK2 (fun hc=>?_) (fun hc=>?_)|fail)
  all_goals exact A4 Tryz.results124
 ·rw [fR rfl]
  refine Ce ?_
  repeat' (first|refine G2 ?_|refine uS 83 (fun hb=>?_) (fun hb=>?_)|refine ZK2 (fun hc=>?_) (fun hc=>?_)|fail)
  all_goals exact A4 Tryz.results124
theorem AuK (k:TK c t x m n) (hp:x.pc=12):Cio Tryz.prog 124 [.ptr 0 0] (RO c x t 0 false [] m n) (.tup []) (RO c (s12 c t x m).x t (s12 c t x m).note (s12 c t x m).won (s12 c t x m).ops (s12 c t x m).m n):=by
 have hf:=k.f.facts
 have ht:=k.ht
 have ha:At c x 12:=by have:=k.lc.at_;rwa [hp] at this
 obtain ⟨-,⟨i0,i1⟩,bl⟩:=ha
 have cd:=XS c k.hs x.buf x.i (by omega)
 have hd:=QP (c:=c) k.r.bf x.i
 have ce:=GO k.f ⟨i0,i1⟩
 have c1:=RF c x t 0 false [] m n k.K k.t64 (aMail c x.i) (x.word) (doneL c x.buf x.i) (k.lo bO bO)
 have htr:=k.r.tr
 unfold s12
 dsimp only
 generalize swM m t (aMail c x.i) x.word (doneL c x.buf x.i)=m' at *
 have c2:=QC c { x with tri:=x.tri+1 } t 0 false [] m' n k.hs k.t64 ⟨i0,by dsimp only;omega⟩ (by have:=k.f.facts;omega) k.r.bf dS k.r.fo (by have:=k.r.fl;dsimp only;omega) (by have:=k.lc.seq;have:=k.f.facts;dsimp only;omega) (k.lc.fit (by omega))
 generalize nextMailT c t { x with tri:=x.tri+1 }=y at *
 generalize doneL c x.buf x.i=dl at *
 by_cases h1:ld m (aMail c x.i)=x.word
 ·rw [fR (.inl h1)]
  rw [fW h1] at c1
  refine Ce ?_
  repeat' (first|refine Eb ?_|refine uS 83 (fun hb=>?_) (fun hb=>?_)|refine ZK2 (fun hc=>?_) (fun hc=>?_)|fail)
  all_goals exact A4 Tryz.results124
 ·rw [fZ h1] at c1
  by_cases h2:x.tri+1=2
  ·rw [fR (.inr h2)]
   refine Ce ?_
   repeat' (first|refine Eb ?_|refine uS 83 (fun hb=>?_) (fun hb=>?_)|refine ZK2 (fun hc=>?_) (fun hc=>?_)|fail)
   all_goals exact A4 Tryz.results124
  ·rw [fT (by simp only [h1,h2,or_self,not_false_eq_true])]
   refine Ce ?_
   repeat' (first|refine Eb ?_|refine uS 83 (fun hb=>?_) (fun hb=>?_)|refine ZK2 (fun hc=>?_) (fun hc=>?_)|fail)
   all_goals exact A4 Tryz.results124
theorem AuL (k:TK c t x m n) (hp:x.pc=13):Cio Tryz.prog 125 [.ptr 0 0] (RO c x t 0 false [] m n) (.tup []) (RO c (s13 c t x m).x t (s13 c t x m).note (s13 c t x m).won (s13 c t x m).ops (s13 c t x m).m n):=by
 have hf:=k.f.facts
 have ht:=k.ht
 have ha:At c x 13:=by have:=k.lc.at_;rwa [hp] at this
 obtain ⟨⟨-,ho⟩,bl,nl,iz⟩:=ha
 have hb:=k.ow ho
 have hnd:=k.nd0 hb.2.1 hb.2.2
 have hnm:=k.K.nm
 have cn:=IY c x t 0 false [] m n k.f k.hs x.pool.own.index x.pool.own.tag hb.2.1 (by omega)
 have c1:=DK c x t 0 false [] m n k.K k.t64 (aNode c x.pool.own.index) (x.pool.own.tag) (hnd)
 unfold s13
 dsimp only
 generalize stM m t (aNode c x.pool.own.index) x.pool.own.tag=m' at *
 refine Cf ?_
 repeat' (first|refine Ec ?_|refine ZK2 (fun hc=>?_) (fun hc=>?_)|fail)
 all_goals exact A4 Tryz.results125
theorem AuM (k:TK c t x m n) (hp:x.pc=14):Cio Tryz.prog 125 [.ptr 0 0] (RO c x t 0 false [] m n) (.tup []) (RO c (s14 c t x m).x t (s14 c t x m).note (s14 c t x m).won (s14 c t x m).ops (s14 c t x m).m n):=by
 have hf:=k.f.facts
 have ht:=k.ht
 have ha:At c x 14:=by have:=k.lc.at_;rwa [hp] at this
 obtain ⟨⟨-,ho⟩,bl,nl,i0,i1⟩:=ha
 have hb:=k.ow ho
 have hnd:=k.nd0 hb.2.1 hb.2.2
 have hnm:=k.K.nm
 have cn:=IY c x t 0 false [] m n k.f k.hs x.pool.own.index x.pool.own.tag hb.2.1 (by omega)
 have hr:=k.nd hb.2.1 hb.2.2 (q:=1+x.i) (by omega) (by omega)
 rw [←mI] at hr
 have e1:(x.nxt.map tU).length=x.nxt.length:=fN _
 obtain ⟨y,hy⟩ : ∃y,x.nxt[x.i.toNat]? = some y:=⟨_,ZgE (by omega)⟩
 have ey:x.nxt.getD x.i.toNat 0=y:=by rw [fQ,hy];rfl
 have c1:=DK c x t 0 false [] m n k.K k.t64 (aNode c x.pool.own.index+1+x.i) (y) (hr)
 unfold s14
 dsimp only
 rw [ey]
 generalize stM m t (aNode c x.pool.own.index+1+x.i) y=m' at *
 by_cases h1:x.i+1=(x.nxt.length:Int)
 ·rw [fR h1]
  refine Cf ?_
  repeat' (first|refine Ec ?_|refine ZK2 (fun hc=>?_) (fun hc=>?_)|fail)
  all_goals exact A4 Tryz.results125
 ·rw [fT h1]
  refine Cf ?_
  repeat' (first|refine Ec ?_|refine ZK2 (fun hc=>?_) (fun hc=>?_)|fail)
  all_goals exact A4 Tryz.results125
theorem AuN (k:TK c t x m n) (hp:x.pc=15):Cio Tryz.prog 125 [.ptr 0 0] (RO c x t 0 false [] m n) (.tup []) (RO c (s15 c t x m).x t (s15 c t x m).note (s15 c t x m).won (s15 c t x m).ops (s15 c t x m).m n):=by
 have hf:=k.f.facts
 have ht:=k.ht
 have ha:At c x 15:=by have:=k.lc.at_;rwa [hp] at this
 obtain ⟨⟨-,ho⟩,bl,nl⟩:=ha
 have hb:=k.ow ho
 have hnd:=k.nd0 hb.2.1 hb.2.2
 have hnm:=k.K.nm
 have cn:=IY c x t 0 false [] m n k.f k.hs x.pool.own.index x.pool.own.tag hb.2.1 (by omega)
 have cw:Cd Tryz.prog 92 [.agg [i64 x.base.index,i64 x.base.tag]] (u64 (wdF x.base)) []:=LW _ _
 have cv:Cd Tryz.prog 92 [.agg [i64 x.pool.own.index,i64 x.pool.own.tag]] (u64 (wdF x.pool.own)) []:=LW _ _
 have c1:=RF c x t 0 false [] m n k.K k.t64 (0) (wdF x.base) (wdF x.pool.own) (k.lo (by decide) (by omega))
 unfold s15
 generalize swM m t 0 (wdF x.base) (wdF x.pool.own)=m' at *
 have c2:=YU c x t 0 false [] m' n k.rd
 have cd:=YS c x t 0 false [] m' n k.hs x.nxt t k.r.nx (by omega)
 have cl:=c8_ x.pool (by have:=k.po;omega)
 have cc:=z8_ x.found (by have:=k.r.fl;omega)
 generalize failT c x=y at *
 generalize readR (doneL c x.nxt t)=r at *
 generalize leaveP x.pool=lp at *
 generalize wdF x.base=wb at *
 generalize wdF x.pool.own=wo at *
 by_cases h1:ld m 0=wb
 ·rw [fR h1]
  rw [fW h1] at c1
  refine Cf ?_
  repeat' (first|refine G5 ?_|refine ZK2 (fun hc=>?_) (fun hc=>?_)|fail)
  all_goals exact A4 Tryz.results125
 ·rw [fT h1]
  rw [fZ h1] at c1
  refine Cf ?_
  repeat' (first|refine G5 ?_|refine ZK2 (fun hc=>?_) (fun hc=>?_)|fail)
  all_goals exact A4 Tryz.results125
end
end
end
end Go.Proofs.YtccefppppedgkaaGreat
