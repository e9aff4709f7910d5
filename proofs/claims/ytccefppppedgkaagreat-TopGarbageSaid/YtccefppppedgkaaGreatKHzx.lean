/- Joined: XTMost, XTFew, XTopV, XTTopG. -/
import Derived.Test.YtccefppppedgkaaGreatKHzw
set_option linter.unusedVariables false
set_option linter.unusedSimpArgs false
set_option linter.unnecessarySimpa false
set_option maxRecDepth 100000
set_option maxHeartbeats 64000000
namespace Go.Proofs.YtccefppppedgkaaGreat
open Go.RowKit
section
attribute [local irreducible] AL AW RG Fin C Cd Cio AI AF AO
def BaZ (s:List Int) (w:Int):List Int:=if ND w=true∧w ∉ s then s++[w] else s
def seen (l:List Int):List Int:=l.foldl BaZ []
end
end Go.Proofs.YtccefppppedgkaaGreat
namespace Go.Proofs.YtccefppppedgkaaGreat
theorem e4_ {α:Type} [DecidableEq α] : ∀ {a b:List α},a.Nodup→(∀x∈a,x∈b)→a.length≤b.length
 | [],_,_,_=>fX _
 | x::a,b,hn,hs=>by
  have hx:=hs x (kH ..)
  have h:=e4_ (a:=a) (b:=b.erase x) (lG.1 hn).2 (fun y hy=>by
   have hne:y≠x:=fun e=>(lG.1 hn).1 (e▸hy)
   exact (List.mem_erase_of_ne hne).2 (hs y (kY _ hy)))
  rw [List.length_erase_of_mem hx] at h
  have:=List.length_pos_of_mem hx
  simp only [gF];omega
end Go.Proofs.YtccefppppedgkaaGreat
namespace Go.Proofs.YtccefppppedgkaaGreat
def KY (c:AB):Int:=max c.threads (c.retire-1)
def CF (x:AC):Bool:=x.won&&(decide (22≤x.pc)&&decide (x.pc≤27))
def Gar (c:AB) (l:List AC):Prop:=∀(t:Nat) x,l[t]? = some x→(x.pool.old.length:Int)≤KY c+(if CF x then 1 else 0)
theorem TB {p:BV} {r:Int} (hr:1≤r) (h:needsP p r=false):(p.old.length:Int)≤r-1:=by
 unfold needsP at h
 by_cases e:p.old=[]
 ·rw [e];simp;omega
 ·rw [fW e,kM,Bool.or_eq_false_iff] at h
  have:=mV h.1
  omega
section
variable {c:AB} {S:List Nm} {H:Nat→Int} {m:Mm} {l:List AC} {t:Nat} {x:AC}
theorem AfT (I:Inv c S H m l) (h:l[t]? = some x) (seen:List Int):(EZ (prS seen) x.pool.old).length≤seen.length:=by
 have hw:((EZ (prS seen) x.pool.old).map fun o=>wdF o.ref).Nodup:=by
  have hn:=I.pnd t x h
  have h1:(x.pool.old.map fun o=>o.ref.index).Nodup:=by
   unfold plc EC at hn
   rw [iP,iP,iP,lY,lY,lY] at hn
   have:=hn.1.2.1.2.1
   rw [lW] at this
   exact this
  have h2:((EZ (prS seen) x.pool.old).map fun o=>o.ref.index).Nodup:=h1.sublist ((List.filter_sublist).map _)
  have h3:((EZ (prS seen) x.pool.old).map fun o=>wdF o.ref).map rdI=(EZ (prS seen) x.pool.old).map fun o=>o.ref.index:=by
   rw [lW]
   refine jR fun o ho=>?_
   have:=(I.olS t x o h (HW.1 ho).1).2
   exact (congrArg HA.index this).symm
  rw [←h3] at h2
  unfold List.Nodup at h2 ⊢
  rw [List.pairwise_map] at h2
  exact h2.imp fun hab e=>hab (by rw [e])
 have:=e4_ hw (b:=seen) fun w hw'=>by
  obtain ⟨o,ho,rfl⟩:=iW.1 hw'
  have:=(HW.1 ho).2
  unfold prS at this
  have h5:word o.ref.index o.ref.tag∈seen:=by simpa using this
  exact h5
 rwa [fN] at this
theorem AmA (c:AB) (t:Nat) (x:AC) (m:Mm):(DP c t x m).old.length≤x.pool.old.length:=by
 unfold DP
 repeat' split
 all_goals first|exact List.length_filter_le _ _|exact fV _
theorem AfZ (h:x.pc=24∨x.pc=26∨x.pc=27):(stepT c t x m).x.pool.old=(DP c t x m).old:=by
 rcases HZ (t:=t) (m:=m) (c:=c) h with e|e<;>rw [e];rfl
theorem AfY (f:Okc c) (I:Inv c S H m l) (h:l[t]? = some x) (hp:x.pc=24∨x.pc=26∨x.pc=27) (hn:(stepT c t x m).x.pc≠25∧(stepT c t x m).x.pc≠27):((DP c t x m).old.length:Int)≤KY c:=by
 have hf:=f.facts
 have hl:=I.loc t x h
 unfold KY
 rcases hp with p|p|p
 ·have e:DP c t x m=backP x.pool (prE (ld m 1)):=by unfold DP;rw [fR p]
  rw [e]
  have:needsP (backP x.pool (prE (ld m 1))) c.retire=false:=by
   cases hq:needsP (backP x.pool (prE (ld m 1))) c.retire
   ·rfl
   ·exfalso
    refine hn.1 ?_
    rw [AE (k:=24) p]
    show (s24 c t x m).x.pc=25
    unfold s24
    dsimp only
    rw [fR hq]
  have:=TB (by omega) this
  omega
 ·have e:DP c t x m=(if ld m 1=x.word then backP x.pool (prE (x.word+1)) else x.pool):=by unfold DP;rw [fT (by omega),fR p]
  rw [e]
  have:needsP (if ld m 1=x.word then backP x.pool (prE (x.word+1)) else x.pool) c.retire=false:=by
   cases hq:needsP (if ld m 1=x.word then backP x.pool (prE (x.word+1)) else x.pool) c.retire
   ·rfl
   ·exfalso
    refine hn.2 ?_
    rw [AE (k:=26) p]
    show (s26 c t x m).x.pc=27
    unfold s26
    dsimp only
    rw [fR hq]
  have:=TB (by omega) this
  omega
 ·have hi:x.i+1=c.threads:=by
   by_cases hi:x.i+1=c.threads
   ·exact hi
   ·exfalso
    refine hn.2 ?_
    rw [AE (k:=27) p]
    show (s27 c t x m).x.pc=27
    unfold s27
    dsimp only
    rw [fT hi]
    exact p
  have e:DP c t x m=backP x.pool (prS (x.seen++[ld m (aHaz c x.i)])):=by unfold DP;rw [fT (by omega),fT (by omega),fR ⟨p,hi⟩]
  rw [e]
  have hk:((backP x.pool (prS (x.seen++[ld m (aHaz c x.i)]))).old.length)≤(x.seen++[ld m (aHaz c x.i)]).length:=AfT I h _
  have ha:=hl.at_
  rw [p] at ha
  rw [fP,gT] at hk
  have:=ha.2.2
  omega
theorem AmW (p:x.pc=22∨x.pc=23):((stepT c t x m).x.won=x.won)∨(x.waits=true∧(stepT c t x m).x.pc=0):=by
 rcases p with p|p
 ·rw [AE (k:=22) p]
  show (s22 c t x m).x.won=_∨(_∧(s22 c t x m).x.pc=0)
  unfold s22
  dsimp only
  split
  ·exact .inl rfl
  ·rcases EP c { x with word:=ld m (aMail c t)} (ldM m t (aMail c t)) with ⟨h,e⟩|⟨_,_,e⟩|⟨_,_,e⟩<;>rw [e]
   ·exact .inr ⟨h,rfl⟩
   ·exact .inl rfl
   ·exact .inl rfl
 ·rw [AE (k:=23) p]
  show (s23 c t x m).x.won=_∨(_∧(s23 c t x m).x.pc=0)
  unfold s23
  dsimp only
  split
  ·rcases EP c { x with tri:=x.tri+1,pc:=22 } (swM m t (aMail c t) x.word (wordR x.res)) with ⟨h,e⟩|⟨_,_,e⟩|⟨_,_,e⟩<;>rw [e]
   ·exact .inr ⟨h,rfl⟩
   ·exact .inl rfl
   ·exact .inl rfl
  ·exact .inl rfl
theorem AtW (p:x.pc=22∨x.pc=23) (q:(stepT c t x m).x.pc=28):needsP x.pool c.retire=false:=by
 rcases p with p|p
 ·rw [AE (k:=22) p] at q
  change (s22 c t x m).x.pc=28 at q
  unfold s22 at q
  dsimp only at q
  split at q
  ·exact absurd (show (23:Int)=28 from q) (by decide)
  ·rcases EP c { x with word:=ld m (aMail c t)} (ldM m t (aMail c t)) with ⟨h,e⟩|⟨_,_,e⟩|⟨_,h,e⟩<;>rw [e] at q
   ·exact absurd (show (0:Int)=28 from q) (by decide)
   ·exact absurd (show (24:Int)=28 from q) (by decide)
   ·exact h
 ·rw [AE (k:=23) p] at q
  change (s23 c t x m).x.pc=28 at q
  unfold s23 at q
  dsimp only at q
  split at q
  ·rcases EP c { x with tri:=x.tri+1,pc:=22 } (swM m t (aMail c t) x.word (wordR x.res)) with ⟨h,e⟩|⟨_,_,e⟩|⟨_,h,e⟩<;>rw [e] at q
   ·exact absurd (show (0:Int)=28 from q) (by decide)
   ·exact absurd (show (24:Int)=28 from q) (by decide)
   ·exact h
  ·exact absurd (show (22:Int)=28 from q) (by decide)
theorem AeP (f:Okc c) (I:Inv c S H m l) (h:l[t]? = some x) (h0:x.pc≠0) (G:(x.pool.old.length:Int)≤KY c+(if CF x then 1 else 0)):((stepT c t x m).x.pool.old.length:Int)≤KY c+(if CF (stepT c t x m).x then 1 else 0):=by
 have hl:=I.loc t x h
 have hf:=f.facts
 have hpos : ∀b:Bool,(0:Int)≤if b then 1 else 0:=fun b=>by split<;>omega
 have hp':=hpos (CF (stepT c t x m).x)
 by_cases p21:x.pc=21
 ·have hw:=hl.won21 p21
  rw [KL p21]
  have e1:CF x=false:=by unfold CF;rw [p21];simp
  have e2:CF { x with pool:=awayP x.pool x.base (ld m 1),pc:=22 }=true:=by unfold CF;dsimp only;rw [hw];rfl
  rw [e1] at G
  rw [e2]
  show ((x.pool.old++[_]).length:Int)≤_
  rw [fP,gT]
  simp at G ⊢;omega
 by_cases pl:x.pc=24∨x.pc=26∨x.pc=27
 ·rw [AfZ pl]
  have hle:=AmA c t x m
  by_cases hn:(stepT c t x m).x.pc≠25∧(stepT c t x m).x.pc≠27
  ·have:=AfY f I h pl hn
   omega
  ·have e:CF (stepT c t x m).x=CF x:=by
    unfold CF
    rw [UD hl (by omega) (by omega) (by omega) (by omega) (by omega)]
    congr 1
    rw [fW (show 22≤(stepT c t x m).x.pc by omega),fW (show (stepT c t x m).x.pc≤27 by omega),fW (show 22≤x.pc by omega),fW (show x.pc≤27 by omega)]
   rw [e];omega
 by_cases p25:x.pc=25
 ·rw [ER hl (by omega) (by omega) (by omega) (by omega) (by omega) (by omega)]
  have hs:=TG (t:=t) (m:=m) hl h0 (k:=25) p25
  have hr:(stepT c t x m).x.pc=25∨(stepT c t x m).x.pc=26∨(stepT c t x m).x.pc=27:=by simpa [BW] using hs
  have e:CF (stepT c t x m).x=CF x:=by
   unfold CF
   rw [UD hl (by omega) (by omega) (by omega) (by omega) (by omega)]
   congr 1
   rw [fW (show 22≤(stepT c t x m).x.pc by omega),fW (show (stepT c t x m).x.pc≤27 by omega),fW (show 22≤x.pc by omega),fW (show x.pc≤27 by omega)]
  rw [e];exact G
 by_cases p22:x.pc=22∨x.pc=23
 ·rw [ER hl (by omega) (by omega) (by omega) (by omega) (by omega) (by omega)]
  have hs:(stepT c t x m).x.pc=0∨(stepT c t x m).x.pc=22∨(stepT c t x m).x.pc=23∨(stepT c t x m).x.pc=24∨(stepT c t x m).x.pc=28:=by
   rcases p22 with p|p
   ·have hs:=TG (t:=t) (m:=m) hl h0 (k:=22) p
    simp [BW] at hs;omega
   ·have hs:=TG (t:=t) (m:=m) hl h0 (k:=23) p
    simp [BW] at hs;omega
  have hww:x.waits=true→x.won=false:=by
   have ha:=hl.at_
   rcases p22 with p|p
   ·rw [p] at ha;exact ha.2
   ·rw [p] at ha;exact ha.2
  have hno:x.won=false→(x.pool.old.length:Int)≤KY c:=fun e=>by
   have e1:CF x=false:=by unfold CF;rw [e];rfl
   rw [e1] at G
   simpa using G
  rcases AmW (c:=c) (t:=t) (m:=m) p22 with e|⟨e,_⟩
  ·by_cases q:(stepT c t x m).x.pc=28
   ·have:=TB (by omega) (AtW p22 q)
    unfold KY at *;omega
   by_cases q0:(stepT c t x m).x.pc=0
   ·by_cases hw:x.won=true
    ·have:=(PF (m:=m) (t:=t) f hl h0).at_
     rw [q0] at this
     have h3:=this.won
     rw [e,hw] at h3;cases h3
    ·have:=hno (by simpa using hw);omega
   have e:CF (stepT c t x m).x=CF x:=by
    unfold CF
    rw [e]
    congr 1
    rw [fW (show 22≤(stepT c t x m).x.pc by omega),fW (show (stepT c t x m).x.pc≤27 by omega),fW (show 22≤x.pc by omega),fW (show x.pc≤27 by omega)]
   rw [e];exact G
  ·have:=hno (hww e)
   omega
 have e1:CF x=false:=by
  unfold CF
  by_cases hq:22≤x.pc
  ·rw [fZ (show ¬x.pc≤27 by omega),kE,kE]
  ·rw [fZ hq,jH,kE]
 rw [e1] at G
 have ho:(stepT c t x m).x.pool.old=x.pool.old:=by
  by_cases p2:x.pc=2
  ·rw [TN p2];rfl
  by_cases p15:x.pc=15
  ·by_cases hr:ld m 0=wdF x.base
   ·rw [JZ p15 hr];rfl
   ·rw [HY p15 hr]
    obtain ⟨p,e,_⟩:=HP c x
    rw [e]
  ·rw [ER hl (by omega) (by omega) (by omega) (by omega) (by omega) (by omega)]
 rw [ho]
 simp at G
 omega
end
def y3_ (c:AB) (m:Mm) (l:List AC) (u:List CP):Prop:=∃S H,All c S H m l u∧Gar c l
theorem AlE {c:AB} (f:Okc c):y3_ c (DC c).m (DC c).tasks (DC c).turns:=⟨_,_,XI f,fun t x h=>by
 obtain ⟨_,rfl⟩:=FJ h
 have hf:=f.facts
 have:(0:Int)≤KY c+(if CF ({ AK with pool:=⟨⟨0,0⟩,poolL c t,[],0⟩}:AC) then 1 else 0):=by
  unfold KY
  split<;>omega
 exact this⟩
theorem ArZ {c:AB} (f:Okc c) {s:Mc} (h:y3_ c s.m s.tasks s.turns) (e:DB):y3_ c (doM c s e).m (doM c s e).tasks (doM c s e).turns:=by
 refine SC (K:=y3_ c) (fun m l u t q h ht hp hq hs=>?_) (fun m l u t z h ht h0=>?_) h e
 all_goals
  obtain ⟨S,H,A,G⟩:=h
  have hlt:t<l.length:=by have:=A.inv.ll;unfold thrN at ht;omega
  have hx:l[t]? = some (l.getD t AK):=by rw [fQ,ZgE hlt];rfl
 ·refine ⟨S,H,GA f A hx hp hq hs,fun u y hy=>?_⟩
  rcases AG hy with ⟨rfl,rfl⟩|⟨_,hy⟩
  ·have g:=G u _ hx
   have e1:CF (l.getD u AK)=false:=by unfold CF;rw [hp];simp
   have e2:CF (begun (l.getD u AK) q)=false:=rfl
   rw [e1] at g;rw [e2]
   exact g
  ·exact G u y hy
 ·obtain ⟨S',H',B,_⟩:=JR (z:=z) f A hx h0
  refine ⟨S',H',B,fun u y hy=>?_⟩
  rcases AG hy with ⟨rfl,rfl⟩|⟨_,hy⟩
  ·exact AeP f A.inv hx h0 (G u _ hx)
  ·exact G u y hy
theorem AlF {c:AB} (f:Okc c) {m:Mm} {l:List AC} {u:List CP} (h:y3_ c m l u):(((l.map fun x=>x.pool.old.length).sum:Nat):Int)≤c.threads*(c.retire+c.threads):=by
 obtain ⟨S,H,A,G⟩:=h
 have hf:=f.facts
 have hb : ∀x∈l,(x.pool.old.length:Int)≤c.retire+c.threads:=fun x hx=>by
  obtain ⟨t,ht⟩:=List.mem_iff_getElem?.1 hx
  have g:=G t x ht
  unfold KY at g
  split at g<;>omega
 have hs : ∀l:List AC,(∀x∈l,(x.pool.old.length:Int)≤c.retire+c.threads)→(((l.map fun x=>x.pool.old.length).sum:Nat):Int)≤l.length*(c.retire+c.threads):=fun l=>by
  induction l with
  |nil=>intro _;simp
  | cons a l ih =>
   intro hb
   have h1:=hb a (kH ..)
   have h2:=ih fun x hx=>hb x (kY _ hx)
   rw [gO,List.sum_cons,gF]
   have:((l.length+1:Nat):Int)*(c.retire+c.threads)=l.length*(c.retire+c.threads)+(c.retire+c.threads):=by
    rw [Int.natCast_add,mP];simp
   rw [this]
   omega
 have:=hs l hb
 rw [A.inv.ll] at this
 exact this
end Go.Proofs.YtccefppppedgkaaGreat
namespace Go.Proofs.YtccefppppedgkaaGreat
open Go.RowKit
section
attribute [local irreducible] AL AW RG Fin C Cd Cio AI AF AO
theorem AcA (c:AB) (s:Mc) (n th vl vc vn vu:Nat) (hs:c.start.length≤1000000000000):Cio Tryz.prog 54 [.ptr 0 0] (XV c s n th vl vc vn vu) (fCf c) (XV c s n th vl vc vn vu):=by
 have c1:=JH c s n th vl vc vn vu
 have c2:=RX c.start hs
 dsimp only [XV,XBv,mL,mC,mR] at *
 refine ZEN Tryz.func54 Tryz.ntmps54 ?_
 repeat' (first|refine Dg ?_|refine ZK2 (fun hc=>?_) (fun hc=>?_)|fail)
 all_goals first|(exfalso;omega)|((first|exact Fin.q Tryz.results54 (.cons (.agg rfl rfl i4_ rfl PZ (us:=[_,_,_,_,_,_,_,_,_,_,_]) rfl rfl) .nil) []|refine Fin.q Tryz.results54 (.cons (.agg rfl rfl i4_ rfl PZ (us:=[_,_,_,_,_,_,_,_,_,_,_]) rfl rfl) .nil) [] (hr:=(.t ?_))|refine Fin.mkv (rs:=_) Tryz.results54 (.cons (.agg rfl rfl i4_ rfl PZ (us:=[_,_,_,_,_,_,_,_,_,_,_]) rfl rfl) .nil) [] (by decide) rfl ?_ ?_ ?_<;>repeat' (first|exact ZE1|refine ZE2 ?_ ?_|refine ZE3 ?_|exact ZE4|fail)))
theorem Okc.ret {c:AB} (h:Okc c):c.retire≤32:=by
 have h0:=h.ok
 unfold AZ at h0
 simp only [gG,BX] at h0
 exact h0.1.1.1.1.2.2
def JO (l:List AC):Nat:=(l.map fun x=>x.pool.old.length).sum
theorem AbT {l:List AC} {q:Nat} {x:AC} (h:l[q]? = some x):JO (l.take (q+1))=JO (l.take q)+x.pool.old.length:=by
 unfold JO
 rw [iB,h,iP,List.sum_append]
 simp
theorem AoG (l:List AC) (q:Nat):JO (l.take q)≤JO l:=by
 have:JO l=JO (l.take q)+JO (l.drop q):=by
  unfold JO
  rw [←List.sum_append, ←iP,jC]
 omega
theorem ArK {c:AB} {s:Mc} {k:Nat} (f:Okc c) (Z:Mz c s k) (hk:k≤2000) (vl vc vn vu:Nat) (ho:JO s.tasks≤1000000):Cio Tryz.prog 14 [.ptr 0 0] (XV c s (nC c) (thrN c) vl vc vn vu) (i64 (JO s.tasks)) (XV c s (nC c) (thrN c) vl vc vn vu):=by
 have c1:=AcA c s (nC c) (thrN c) vl vc vn vu (FG f)
 have c2:=fun (q:Nat) x (hx:s.tasks[q]? = some x)=>NZ f Z hk vl vc vn vu hx
 obtain ⟨h1,h2,h3,h4⟩:=FH f Z hk
 have hq0:JO (s.tasks.take 0)=0:=rfl
 have hqs:=fun (q:Nat) x (hx:s.tasks[q]? = some x)=>AbT hx
 have hql:=AoG s.tasks
 have hqe:JO (s.tasks.take (thrN c))=JO s.tasks:=by rw [←h2,jQ]
 generalize hsq:(fun q:Nat=>JO (s.tasks.take q))=sq at *
 have hsq' : ∀q,JO (s.tasks.take q)=sq q:=fun q=>congrFun hsq q
 simp only [hsq'] at *
 clear hsq hsq'
 rw [←hqe] at *
 generalize nC c=n at *
 generalize thrN c=th at *
 dsimp only [XV,XBv,mL,mC,mR] at *
 refine ZEN Tryz.func14 Tryz.ntmps14 ?_
 repeat' (first|refine By ?_|refine ZK2 (fun hc=>?_) (fun hc=>?_)|fail)
 all_goals try exact ZE5
 refine AW.loopP (fun (q:Nat)=>q≤th) (fun (q:Nat)=>(pu (pu (pu (pu (fun _=>.any) 0 (.ptr 0 0)) 3 (i64 (sq q))) 7 (i64 c.threads)) 8 (i64 q))) (fun (q:Nat)=>[.box 114 [i64 c.kind,i64 c.threads,i64 c.chans,i64 c.cap,i64 c.nodes,i64 c.retire,i64 c.patience,i64 c.tags,i64 c.seqs,i64 c.gens,.t (.lst (c.start.map tI)),.ptr 1 0,.sl 5 0 th,.sl 6 0 th,.sl 7 vn (s).notes.length,.sl 8 vu (s).turns.length,.sl 9 0 th,.sl 10 0 th,i64 (s).time],.box 135 [.sl 2 0 n,.sl 3 vl (s).m.log.length,.sl 4 vc (s).m.cnt.length,bo true],.row 0 46 1 ((s).m.w.map tU),.row vl 83 7 ((s).m.log.map tAc),.row vc 3 1 ((s).m.cnt.map tI),.row 0 55 34 ((s).tasks.map cTk),.row 0 145 7 ((s).pumps.map cPu),.row vn 75 13 ((s).notes.map cNt),.row vu 63 3 ((s).turns.map cTn),.row 0 3 1 ((s).steps.map tI),.row 0 3 1 ((s).most.map tI)]) (fun (q:Nat)=>th-q) (0) ?_ ?_ ?_
 ·exact fX _
 ·rw [hq0]
  exact Wk.cq 11
 ·intro q hq1
  have hb:=hql q
  by_cases hi:q<th
  ·obtain ⟨x,hx⟩ : ∃x,s.tasks[q]? = some x:=⟨_,ZgE (by omega)⟩
   have c3:=c2 q x hx
   have h5:=hqs q x hx
   have hb1:=hql (q+1)
   have e3:(x.pool.old.map tOd).length=x.pool.old.length:=fN _
   repeat' (first|refine Ex ?_|refine ZK2 (fun hc=>?_) (fun hc=>?_)|fail)
   all_goals try exact ZE5
   refine ⟨q+1,by omega,by omega,?_⟩
   rw [h5,Int.natCast_add, ←e3]
   exact Wk.cq 11
  ·obtain rfl:q=th:=by omega
   repeat' (first|refine A0 ?_|refine ZK2 (fun hc=>?_) (fun hc=>?_)|fail)
   all_goals exact A3 Tryz.results14
def evG (c:AB) (l:List DB) (st fr:Int):Nat→Mc
 |0=>DC c
 |q+1=>match l[q]? with
  |some e=>if e.kind=1∧fr≤(q:Int)∧e.thread=st then evG c l st fr q else doM c (evG c l st fr q) e
  |none=>evG c l st fr q
theorem ApT {c:AB} {l:List DB} {st fr:Int} {q:Nat} {e:DB} (hx:l[q]? = some e) (h:e.kind=1∧fr≤(q:Int)∧e.thread=st):evG c l st fr (q+1)=evG c l st fr q:=by
 rw [evG,hx];exact fR h
theorem ApS {c:AB} {l:List DB} {st fr:Int} {q:Nat} {e:DB} (hx:l[q]? = some e) (h : ¬(e.kind=1∧fr≤(q:Int)∧e.thread=st)):evG c l st fr (q+1)=doM c (evG c l st fr q) e:=by
 rw [evG,hx];exact fT h
theorem ApU {c:AB} (f:Okc c) (l:List DB) (st fr:Int) : ∀q,∃k,k≤q∧Mz c (evG c l st fr q) k∧y3_ c (evG c l st fr q).m (evG c l st fr q).tasks (evG c l st fr q).turns
 |0=>⟨0,fV _,m6_ f,AlE f⟩
 | q+1=>by
  obtain ⟨k,hk,Z,G⟩:=ApU f l st fr q
  cases hx:l[q]? with
  | none =>
   have e:evG c l st fr (q+1)=evG c l st fr q:=by
    rw [evG,hx]
   rw [e];exact ⟨k,by omega,Z,G⟩
  |some e =>
   by_cases h:e.kind=1∧fr≤(q:Int)∧e.thread=st
   ·rw [ApT hx h];exact ⟨k,by omega,Z,G⟩
   ·rw [ApS hx h];exact ⟨k+1,by omega,VZ f Z e,ArZ f G e⟩
theorem ZG (c:AB) (l:List DB) (st fr:Int) (hs:c.start.length≤1152921504606846976) (he : ∀e∈l,okE e):Cd Tryz.prog 3 [fCf c,.ln (l.map tEv),i64 st,i64 fr] (bo true) []:=by
 have c1:=UQ c hs
 have aw:=XL
 have e1:(l.map tEv).length=l.length:=fN _
 cases hsm:LT c
 ·rw [hsm] at c1
  refine ZEN Tryz.func3 Tryz.ntmps3 ?_
  repeat' (first|refine Hb ?_|refine uS 15 (fun hb=>?_) (fun hb=>?_)|refine uS 35 (fun hb=>?_) (fun hb=>?_)|refine uS 40 (fun hb=>?_) (fun hb=>?_)|refine ZK2 (fun hc=>?_) (fun hc=>?_)|fail)
  all_goals exact A3 Tryz.results3
 ·rw [hsm] at c1
  by_cases hl:900<l.length
  ·refine ZEN Tryz.func3 Tryz.ntmps3 ?_
   repeat' (first|refine Hb ?_|refine uS 15 (fun hb=>?_) (fun hb=>?_)|refine uS 35 (fun hb=>?_) (fun hb=>?_)|refine uS 40 (fun hb=>?_) (fun hb=>?_)|refine ZK2 (fun hc=>?_) (fun hc=>?_)|fail)
   all_goals exact A3 Tryz.results3
  ·obtain ⟨f,h4, -⟩:=UA hsm
   have hf:=f.facts
   have hrt:=f.ret
   have c2:=NY f (FG f)
   have hz:=ApU f l st fr
   have hP:c.threads*(c.retire+c.threads)≤1000000:=by
    have:c.threads=1∨c.threads=2∨c.threads=3∨c.threads=4:=by omega
    rcases this with h|h|h|h<;>rw [h]<;>omega
   have hA : ∀q,((JO (evG c l st fr q).tasks:Nat):Int)≤c.threads*(c.retire+c.threads):=fun q=>by
    obtain ⟨k,hk,Z,G⟩:=hz q
    exact AlF f G
   have hD : ∀q e,q<l.length→l[q]? = some e → ¬(e.kind=1∧fr≤(q:Int)∧e.thread=st) → ∃r:Int,Cio Tryz.prog 13 [.ptr 0 0,aEv e] (XO c (evG c l st fr q) (nC c) (thrN c)) (i64 r) (XO c (evG c l st fr (q+1)) (nC c) (thrN c)):=fun q e hq hx hn=>by
    obtain ⟨k,hk,Z,G⟩:=hz q
    rw [ApS hx hn]
    exact LK f (by omega) Z.q (by omega) e (he e (fO hx))
   have hW : ∀q,q≤l.length→Cio Tryz.prog 14 [.ptr 0 0] (XO c (evG c l st fr q) (nC c) (thrN c)) (i64 (JO (evG c l st fr q).tasks)) (XO c (evG c l st fr q) (nC c) (thrN c)):=fun q hq=>by
    obtain ⟨k,hk,Z,G⟩:=hz q
    have:=hA q
    exact ArK f Z (by omega) _ _ _ _ (by omega)
   have hY : ∀(q:Nat) e,l[q]? = some e→e.kind=1∧fr≤(q:Int)∧e.thread=st→evG c l st fr (q+1)=evG c l st fr q:=fun q e hx h=>ApT hx h
   have h0:DC c=evG c l st fr 0:=rfl
   rw [h0] at c2
   clear h0 hz
   generalize evG c l st fr=ev at *
   generalize hPe:c.threads*(c.retire+c.threads)=P at *
   generalize hn:nC c=n at *
   generalize ht:thrN c=th at *
   dsimp only [XO,XB,mL,mC,mR] at *
   refine ZEN Tryz.func3 Tryz.ntmps3 ?_
   repeat' (first|(refine ZAL ?_;first|refine uA ?_|refine uK (c1) ?_|refine uK (c2) ?_)|refine uR ?_|refine uC ?_|refine AW.drawU (id:=11) mixed 0 qR ?_|refine uS 15 (fun hb=>?_) (fun hb=>?_)|refine uS 35 (fun hb=>?_) (fun hb=>?_)|refine uS 40 (fun hb=>?_) (fun hb=>?_)|refine ZK2 (fun hc=>?_) (fun hc=>?_)|fail)
   all_goals try exact ZE5
   refine AW.loopP (fun (q:Nat)=>q≤l.length) (fun (q:Nat)=>(pu (pu (pu (pu (pu (pu (pu (fun _=>.any) 2 (i64 st)) 3 (i64 fr)) 4 (.ptr 0 0)) 9 (.ptr 1 0)) 25 (.ln (l.map tEv))) 26 (i64 (l.map tEv).length)) 27 (i64 q))) (fun (q:Nat)=>[.box 24 [i64 c.kind,i64 c.threads,i64 c.chans,i64 c.cap,i64 c.nodes,i64 c.retire,i64 c.patience,i64 c.tags,i64 c.seqs,i64 c.gens,.t (.lst (c.start.map tI))],.box 114 [i64 c.kind,i64 c.threads,i64 c.chans,i64 c.cap,i64 c.nodes,i64 c.retire,i64 c.patience,i64 c.tags,i64 c.seqs,i64 c.gens,.t (.lst (c.start.map tI)),.ptr 2 0,.sl 6 0 th,.sl 7 0 th,.sl 8 (ev q).notes.length (ev q).notes.length,.sl 9 (ev q).turns.length (ev q).turns.length,.sl 10 0 th,.sl 11 0 th,i64 (ev q).time],.box 135 [.sl 3 0 n,.sl 4 (ev q).m.log.length (ev q).m.log.length,.sl 5 (ev q).m.cnt.length (ev q).m.cnt.length,bo true],.row 0 46 1 ((ev q).m.w.map tU),.row (ev q).m.log.length 83 7 ((ev q).m.log.map tAc),.row (ev q).m.cnt.length 3 1 ((ev q).m.cnt.map tI),.row 0 55 34 ((ev q).tasks.map cTk),.row 0 145 7 ((ev q).pumps.map cPu),.row (ev q).notes.length 75 13 ((ev q).notes.map cNt),.row (ev q).turns.length 63 3 ((ev q).turns.map cTn),.row 0 3 1 ((ev q).steps.map tI),.row 0 3 1 ((ev q).most.map tI)]) (fun (q:Nat)=>l.length-q) (0) ?_ ?_ ?_
   ·exact fX _
   ·exact Wk.cq 12
   ·intro q hq1
    by_cases hi:q<l.length
    ·obtain ⟨e,hx⟩ : ∃e,l[q]? = some e:=⟨_,ZgE hi⟩
     have c4:=hW (q+1) (by omega)
     have hAq:=hA (q+1)
     by_cases hsk:e.kind=1∧fr≤(q:Int)∧e.thread=st
     ·rw [hY q e hx hsk] at c4 hAq
      have hyq:=hY q e hx hsk
      obtain ⟨g1,g2,g3⟩:=hsk
      obtain ⟨ek,et,⟨rk,ra,rv,rd,rc⟩,ei,eo⟩:=e
      dsimp only at g1 g3
      subst g1 g3
      repeat' (first|refine uA ?_|(refine ZRG ?_;first|refine uR ?_|refine uJ1 1 [2,3,4,5,6,7,8,9,10,11] (c4) ?_)|refine uC ?_|refine AW.drawU (id:=11) mixed 0 qR ?_|refine uS 15 (fun hb=>?_) (fun hb=>?_)|refine uS 35 (fun hb=>?_) (fun hb=>?_)|refine uS 40 (fun hb=>?_) (fun hb=>?_)|refine ZK2 (fun hc=>?_) (fun hc=>?_)|fail)
      all_goals try exact ZE5
      refine ⟨q+1,by omega,by omega,?_⟩
      rw [hyq]
      exact Wk.cq 12
     ·obtain ⟨r,c3⟩:=hD q e hi hx hsk
      obtain ⟨ek,et,⟨rk,ra,rv,rd,rc⟩,ei,eo⟩:=e
      dsimp only [XO,XB,mL,mC,mR] at *
      by_cases g1:ek=1
      ·by_cases g2:(q:Int)<fr
       ·repeat' (first|refine Ey ?_|refine uS 15 (fun hb=>?_) (fun hb=>?_)|refine uS 35 (fun hb=>?_) (fun hb=>?_)|refine uS 40 (fun hb=>?_) (fun hb=>?_)|refine ZK2 (fun hc=>?_) (fun hc=>?_)|fail)
        all_goals try exact ZE5
        refine ⟨q+1,by omega,by omega,?_⟩
        exact Wk.cq 12
       ·repeat' (first|refine Ey ?_|refine uS 15 (fun hb=>?_) (fun hb=>?_)|refine uS 35 (fun hb=>?_) (fun hb=>?_)|refine uS 40 (fun hb=>?_) (fun hb=>?_)|refine ZK2 (fun hc=>?_) (fun hc=>?_)|fail)
        all_goals try exact ZE5
        refine ⟨q+1,by omega,by omega,?_⟩
        exact Wk.cq 12
      ·repeat' (first|refine Ey ?_|refine uS 15 (fun hb=>?_) (fun hb=>?_)|refine uS 35 (fun hb=>?_) (fun hb=>?_)|refine uS 40 (fun hb=>?_) (fun hb=>?_)|refine ZK2 (fun hc=>?_) (fun hc=>?_)|fail)
       all_goals try exact ZE5
       refine ⟨q+1,by omega,by omega,?_⟩
       exact Wk.cq 12
    ·obtain rfl:q=l.length:=by omega
     repeat' (first|(refine ZAL ?_;first|refine uA ?_|refine uK (aw) ?_)|refine uR ?_|refine uC ?_|refine AW.drawU (id:=11) mixed 0 qR ?_|refine uS 15 (fun hb=>?_) (fun hb=>?_)|refine uS 35 (fun hb=>?_) (fun hb=>?_)|refine uS 40 (fun hb=>?_) (fun hb=>?_)|refine ZK2 (fun hc=>?_) (fun hc=>?_)|fail)
     all_goals exact A3 Tryz.results3
end
end Go.Proofs.YtccefppppedgkaaGreat
