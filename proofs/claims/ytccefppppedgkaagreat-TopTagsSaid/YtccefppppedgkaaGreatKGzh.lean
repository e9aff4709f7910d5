/- Joined: XTTaskG. -/
import Derived.Test.YtccefppppedgkaaGreatKGze
set_option linter.unusedVariables false
set_option linter.unusedSimpArgs false
set_option linter.unnecessarySimpa false
set_option maxRecDepth 100000
set_option maxHeartbeats 64000000
namespace Go.Proofs.YtccefppppedgkaaGreat
open Go.RowKit
section
attribute [local irreducible] AL AW RG Fin C Cd Cio AI AF AN
section
section
variable {c:AB} {t:Nat} {x:AC} {m:Mm} {n:Nat}
theorem ArZ (k:TK c t x m n) (hp:x.pc=16):Cio Tryz.prog 126 [.ptr 0 0] (RO c x t 0 false [] m n) (.tup []) (RO c (s16 c t x m).x t (s16 c t x m).note (s16 c t x m).won (s16 c t x m).ops (s16 c t x m).m n):=by
 have hf:=k.f.facts
 have ht:=k.ht
 have cm:=AqR m n k.K t k.t64 2 1 (k.lo (by decide) (by omega))
 have hl:=PM k.wu 2
 have cp:=b6_ x.req (ld m 2%4294967296) (by have:=(QW (k.lc.fit (by omega))).2;omega) (by omega)
 rw [AbP] at cp
 unfold s16
 dsimp only
 generalize adM m t 2 1=m' at *
 generalize HW x.req (ld m 2%4294967296)=ws at *
 refine C6 ?_
 repeat' (first|(refine ZAL ?_;first|refine Ag ?_|refine uA ?_|refine uK (cp) ?_)|(refine ZRG ?_;first|refine uR ?_|refine uJ [1,2,3,4] (cm) ?_)|refine uC ?_|refine Cv ?_|refine ZK2 (fun hc=>?_) (fun hc=>?_)|fail)
 all_goals exact A3 Tryz.results126
theorem AsA (k:TK c t x m n) (hp:x.pc=17):Cio Tryz.prog 126 [.ptr 0 0] (RO c x t 0 false [] m n) (.tup []) (RO c (s17 c t x m).x t (s17 c t x m).note (s17 c t x m).won (s17 c t x m).ops (s17 c t x m).m n):=by
 have hf:=k.f.facts
 have ht:=k.ht
 have ha:At c x 17:=by have:=k.lc.at_;rwa [hp] at this
 obtain ⟨-,j0,j1,al⟩:=ha
 have e1:(x.args.map tU).length=x.args.length:=fH _
 obtain ⟨y,hy⟩ : ∃y,x.args[x.j.toNat]? = some y:=⟨_,ZgE (by omega)⟩
 have ey:x.args.getD x.j.toNat 0=y:=by rw [fK,hy];rfl
 have ce:=AaY k.f k.t01
 have hA:0≤EP c t∧EP c t≤1000:=by unfold EP;omega
 have c1:=DF c x t 0 false [] m n k.K k.t64 (EP c t+x.j) (y) (k.lo (by omega) (by unfold EP;omega))
 unfold s17
 dsimp only
 rw [ey]
 generalize stM m t (EP c t+x.j) y=m' at *
 by_cases h1:x.j+1=5
 ·rw [fL h1]
  refine C6 ?_
  repeat' (first|refine Fq ?_|refine ZK2 (fun hc=>?_) (fun hc=>?_)|fail)
  all_goals exact A3 Tryz.results126
 ·rw [fM h1]
  refine C6 ?_
  repeat' (first|refine Fq ?_|refine ZK2 (fun hc=>?_) (fun hc=>?_)|fail)
  all_goals exact A3 Tryz.results126
theorem AsB (k:TK c t x m n) (hp:x.pc=18):Cio Tryz.prog 126 [.ptr 0 0] (RO c x t 0 false [] m n) (.tup []) (RO c (s18 c t x m).x t (s18 c t x m).note (s18 c t x m).won (s18 c t x m).ops (s18 c t x m).m n):=by
 have hf:=k.f.facts
 have ht:=k.ht
 have hsq:=k.lc.seq
 have ce:=f8_ k.f k.t01
 have c1:=DF c x t 0 false [] m n k.K k.t64 (aSeq c t) (x.seq) (k.lo eW eW)
 unfold s18
 dsimp only
 generalize stM m t (aSeq c t) x.seq=m' at *
 refine C6 ?_
 repeat' (first|(refine ZAL ?_;first|refine Ag ?_|refine uA ?_)|(refine ZRG ?_;first|refine uR ?_|refine uJ1 0 [1,2,3,4] (c1) ?_|refine AZ (ce) ?_)|refine uC ?_|refine Cv ?_|refine ZK2 (fun hc=>?_) (fun hc=>?_)|fail)
 all_goals exact A3 Tryz.results126
theorem AsC (k:TK c t x m n) (hp:x.pc=19):Cio Tryz.prog 126 [.ptr 0 0] (RO c x t 0 false [] m n) (.tup []) (RO c (s19 c t x m).x t (s19 c t x m).note (s19 c t x m).won (s19 c t x m).ops (s19 c t x m).m n):=by
 have hf:=k.f.facts
 have ht:=k.ht
 have ce:=GG k.f k.t01
 have c1:=BW c x t 0 false [] m n k.K k.t64 (aMail c t) (k.lo dJ dJ)
 have cr:=GL (ld m (aMail c t)) (PM k.wu _)
 unfold s19
 dsimp only
 generalize ldM m t (aMail c t)=m' at *
 generalize readR (ld m (aMail c t))=r at *
 refine C6 ?_
 repeat' (first|(refine ZAL ?_;first|refine Ag ?_|refine uA ?_)|(refine ZRG ?_;first|refine uR ?_|refine AZ (ce) ?_|refine uJ1 0 [1,2,3,4] (c1) ?_|refine AZ (cr) ?_)|refine uC ?_|refine Cv ?_|refine ZK2 (fun hc=>?_) (fun hc=>?_)|fail)
 all_goals exact A3 Tryz.results126
theorem AsD (k:TK c t x m n) (hp:x.pc=20):Cio Tryz.prog 127 [.ptr 0 0] (RO c x t 0 false [] m n) (.tup []) (RO c (s20 c t x m).x t (s20 c t x m).note (s20 c t x m).won (s20 c t x m).ops (s20 c t x m).m n):=by
 have hf:=k.f.facts
 have ht:=k.ht
 have cm:=GG k.f k.t01
 have ce:=QN k.f k.t01
 have c1:=DF c x t 0 false [] m n k.K k.t64 (aHaz c t) (0) (k.lo dK dK)
 unfold s20
 dsimp only
 generalize stM m t (aHaz c t) 0=m' at *
 obtain ⟨pc,seq,req,slow,round,i,j,tri,epoch,all_,base,buf,nxt,word,args,found,seen,pool,res,won,waits,scans⟩:=x
 dsimp only [RO,rB] at *
 cases won
 ·rw [fM (by simp)]
  refine Az ?_
  repeat' (first|refine Fu ?_|refine uS 130 (fun hb=>?_) (fun hb=>?_)|refine ZK2 (fun hc=>?_) (fun hc=>?_)|fail)
  all_goals exact A3 Tryz.results127
 ·rw [fL rfl]
  refine Az ?_
  repeat' (first|refine Fu ?_|refine uS 130 (fun hb=>?_) (fun hb=>?_)|refine ZK2 (fun hc=>?_) (fun hc=>?_)|fail)
  all_goals exact A3 Tryz.results127
theorem AsE (k:TK c t x m n) (hp:x.pc=21):Cio Tryz.prog 127 [.ptr 0 0] (RO c x t 0 false [] m n) (.tup []) (RO c (s21 c t x m).x t (s21 c t x m).note (s21 c t x m).won (s21 c t x m).ops (s21 c t x m).m n):=by
 have hf:=k.f.facts
 have ht:=k.ht
 have cm:=GG k.f k.t01
 have c1:=BW c x t 0 false [] m n k.K k.t64 (1) (k.lo (by decide) (by omega))
 have hg:=k.gl
 have ca:=AiD x.pool x.base (ld m 1) k.po
 unfold s21
 dsimp only
 generalize ldM m t 1=m' at *
 generalize ld m 1=g at *
 generalize awayP x.pool x.base g=pl at *
 refine Az ?_
 repeat' (first|(refine ZAL ?_;first|refine uA ?_|refine uI [0,1,2,3,4] (c1) ?_)|(refine ZRG ?_;first|refine uR ?_|refine AZ (cm) ?_|refine uJ1 0 [1,2,3,4] (c1) ?_|refine AZ (ca) ?_)|refine uC ?_|refine Cw ?_|refine uS 130 (fun hb=>?_) (fun hb=>?_)|refine ZK2 (fun hc=>?_) (fun hc=>?_)|fail)
 all_goals exact A3 Tryz.results127
theorem AsF (k:TK c t x m n) (hp:x.pc=22):Cio Tryz.prog 127 [.ptr 0 0] (RO c x t 0 false [] m n) (.tup []) (RO c (s22 c t x m).x t (s22 c t x m).note (s22 c t x m).won (s22 c t x m).ops (s22 c t x m).m n):=by
 have hf:=k.f.facts
 have ht:=k.ht
 have cm:=GG k.f k.t01
 have c1:=BW c x t 0 false [] m n k.K k.t64 (aMail c t) (k.lo dJ dJ)
 have hw:=PM k.wu (aMail c t)
 have cr:=NX x.res
 unfold s22
 dsimp only
 generalize ldM m t (aMail c t)=m' at *
 generalize ld m (aMail c t)=w at *
 have cb:Cd Tryz.prog 178 [u64 w,u64 (wordR x.res)] (bo (behindW w (wordR x.res))) []:=US w _ hw (QH _)
 have c2:=d_ c { x with word:=w } t m' n
 generalize ownedT c { x with word:=w } m'=y at *
 generalize behindW w (wordR x.res)=b at *
 generalize wordR x.res=wr at *
 cases b
 ·rw [fM (by simp)]
  refine Az ?_
  repeat' (first|refine Fv ?_|refine uS 130 (fun hb=>?_) (fun hb=>?_)|refine ZK2 (fun hc=>?_) (fun hc=>?_)|fail)
  all_goals exact A3 Tryz.results127
 ·rw [fL rfl]
  refine Az ?_
  repeat' (first|refine Fv ?_|refine uS 130 (fun hb=>?_) (fun hb=>?_)|refine ZK2 (fun hc=>?_) (fun hc=>?_)|fail)
  all_goals exact A3 Tryz.results127
theorem AsG (k:TK c t x m n) (hp:x.pc=23):Cio Tryz.prog 127 [.ptr 0 0] (RO c x t 0 false [] m n) (.tup []) (RO c (s23 c t x m).x t (s23 c t x m).note (s23 c t x m).won (s23 c t x m).ops (s23 c t x m).m n):=by
 have hf:=k.f.facts
 have ht:=k.ht
 have cm:=GG k.f k.t01
 have htr:=k.r.tr
 have cr:=NX x.res
 have c1:=QB c x t 0 false [] m n k.K k.t64 (aMail c t) (x.word) (wordR x.res) (k.lo dJ dJ)
 unfold s23
 dsimp only
 generalize swM m t (aMail c t) x.word (wordR x.res)=m' at *
 have c2:=d_ c { x with tri:=x.tri+1,pc:=22 } t m' n
 generalize ownedT c { x with tri:=x.tri+1,pc:=22 } m'=y at *
 generalize wordR x.res=wr at *
 by_cases h1:ld m (aMail c t)=x.word
 ·rw [fL (.inl h1)]
  rw [fR h1] at c1
  refine Az ?_
  repeat' (first|refine E4 ?_|refine uS 130 (fun hb=>?_) (fun hb=>?_)|refine ZK2 (fun hc=>?_) (fun hc=>?_)|fail)
  all_goals exact A3 Tryz.results127
 ·rw [fP h1] at c1
  by_cases h2:x.tri+1=2
  ·rw [fL (.inr h2)]
   refine Az ?_
   repeat' (first|refine E4 ?_|refine uS 130 (fun hb=>?_) (fun hb=>?_)|refine ZK2 (fun hc=>?_) (fun hc=>?_)|fail)
   all_goals exact A3 Tryz.results127
  ·rw [fM (by simp only [h1,h2,or_self,not_false_eq_true])]
   refine Az ?_
   repeat' (first|refine E4 ?_|refine uS 130 (fun hb=>?_) (fun hb=>?_)|refine ZK2 (fun hc=>?_) (fun hc=>?_)|fail)
   all_goals exact A3 Tryz.results127
end
end
end
end Go.Proofs.YtccefppppedgkaaGreat
