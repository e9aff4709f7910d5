/- Joined: XTSortOW, XTObjO. -/
import Derived.Test.YtccefppppedgkaaGreatKHzh
import Derived.Test.YtccefppppedgkaaGreatKHu
set_option linter.unusedVariables false
set_option linter.unusedSimpArgs false
set_option linter.unnecessarySimpa false
set_option maxRecDepth 100000
set_option maxHeartbeats 64000000
namespace Go.Proofs.YtccefppppedgkaaGreat
open Go.RowKit
section
attribute [local irreducible] AL AW RG Fin C Cd Cio AI AF AO
theorem o3_ (f:FuncId) (fi cap:List AV) (key:DOp→Int) (l:List DOp) (k:Nat) (hl:l.length≤1152921504606846976) (hg:FM (.fn (.func f) fi cap) key l)
  (hup:upB (CM 1) (.fn (.func f) fi cap) = .fn (.func f) fi cap) (hps : ∀heap sel,BH heap sel (.fn (.func f) fi cap) (.fn (.func f) fi cap)) :
  Cio Tryz.prog 261 [.sl 0 k l.length,i64 l.length,.fn (.func f) fi cap] [.row k 65 8 (l.map tOp)] (.tup []) [.row k 65 8 ((isort key l).map tOp)]:=by
 refine ZEN Tryz.func261 Tryz.ntmps261 ?_
 repeat' (first|refine A0 ?_|fail)
 refine AW.loopP (fun (x:Nat × List DOp)=>20∣x.1∧x.1≤l.length∧(∀c,20∣c→c<x.1→BG key (seg x.2 c (c+20)))∧SE key l x.2∧x.2.length=l.length) (fun (x:Nat × List DOp)=>(pu (pu (pu (pu (pu (pu (fun _=>.any) 0 (.sl 0 k l.length)) 1 (i64 l.length)) 2 (.fn (.func f) fi cap)) 6 (i64 20)) 7 (i64 x.1)) 8 (i64 ((x.1+20:Nat):Int)))) (fun (x:Nat × List DOp)=>[.row k 65 8 (x.2.map tOp)]) (fun (x:Nat × List DOp)=>l.length-x.1) ((0,l)) ?_ ?_ ?_
 ·exact ⟨Nat.dvd_zero _,fX _,fun c _ h=>by dsimp only at h;omega,SE.refl _,rfl⟩
 ·exact Wk.cq 1
 ·rintro ⟨a,M⟩ ⟨h2,h3,h4,h5,h6⟩
  dsimp only at h2 h3 h4 h5 h6 ⊢
  have hgM:=hg.mono fun x hx=>h5.mem.1 hx
  by_cases hb:a+20≤l.length
  ·have c1:=SQ f fi cap key M k a (a+20) (by omega) (by omega) (by omega) hgM hup
   rw [h6] at c1
   repeat' (first|refine Al ?_|fail)
   all_goals try exact ZE5
   refine ⟨(a+20,srt key M a (a+20)),⟨nJ h2 (nA _),hb,ME h2 h4 (by omega),h5.trans (JF (by omega)),by dsimp only;rw [DV (by omega) (by omega),h6]⟩,by dsimp only;omega,?_⟩
   exact Wk.cq 1
  ·have c1:=SQ f fi cap key M k a l.length (by omega) (by omega) (by omega) hgM hup
   have f1:=MD h2 h4 (by omega) (by omega)
   have f2:=h5.trans (JF (key:=key) (l:=M) (a:=a) (b:=l.length) (by omega))
   have f3:=DV (key:=key) (l:=M) (a:=a) (b:=l.length) (by omega) (by omega)
   rw [h6] at c1 f1 f3
   clear h4 h5 hgM
   generalize srt key M a l.length=M1 at *
   repeat' (first|refine Al ?_|fail)
   all_goals try exact ZE5
   refine AW.loopP (fun (y:Nat × List DOp)=>0<y.1∧y.1≤2*l.length+20∧(∀c,y.1∣c→BG key (seg y.2 c (c+y.1)))∧SE key l y.2∧y.2.length=l.length) (fun (y:Nat × List DOp)=>(pu (pu (pu (pu (fun _=>.any) 0 (.sl 0 k l.length)) 1 (i64 l.length)) 2 (.fn (.func f) fi cap)) 6 (i64 y.1))) (fun (y:Nat × List DOp)=>[.row k 65 8 (y.2.map tOp)]) (fun (y:Nat × List DOp)=>l.length+1-y.1) ((20,M1)) ?_ ?_ ?_
   ·exact ⟨by dsimp only;omega,by dsimp only;omega,f1,f2,f3⟩
   ·exact Wk.cq 1
   ·rintro ⟨d,M2⟩ ⟨g1,g2,g3,g4,g5⟩
    dsimp only at g1 g2 g3 g4 g5 ⊢
    by_cases hd:d<l.length
    ·repeat' (first|refine A0 ?_|fail)
     all_goals try exact ZE5
     refine AW.loopP (fun (z:Nat × Nat × List DOp)=>2*d∣z.1∧z.1≤l.length∧z.2.1=z.1+2*d∧(∀c,2*d∣c→c<z.1→BG key (seg z.2.2 c (c+2*d)))∧(∀c,d∣c→z.1≤c→BG key (seg z.2.2 c (c+d)))∧SE key l z.2.2∧z.2.2.length=l.length) (fun (z:Nat × Nat × List DOp)=>(pu (pu (pu (pu (pu (pu (fun _=>.any) 0 (.sl 0 k l.length)) 1 (i64 l.length)) 2 (.fn (.func f) fi cap)) 6 (i64 d)) 7 (i64 z.1)) 8 (i64 z.2.1))) (fun (z:Nat × Nat × List DOp)=>[.row k 65 8 (z.2.2.map tOp)]) (fun (z:Nat × Nat × List DOp)=>l.length-z.1) ((0,2*d,M2)) ?_ ?_ ?_
     ·exact ⟨Nat.dvd_zero _,fX _,by dsimp only;omega,fun c _ h=>by dsimp only at h;omega,fun c hc _=>g3 c hc,g4,g5⟩
     ·exact Wk.cq 1
     ·rintro ⟨a,b,M3⟩ ⟨k1,k2,k3,k4,k5,k6,k7⟩
      dsimp only at k1 k2 k3 k4 k5 k6 k7 ⊢
      have hgM:=hg.mono fun x hx=>k6.mem.1 hx
      have kd:d∣a:=Nat.dvd_trans (Nat.dvd_mul_left _ _) k1
      have kd2:d∣a+d:=nJ kd (nA _)
      have t1:=k5 a kd (fV _)
      have t2:=k5 (a+d) kd2 (by omega)
      by_cases hb:b≤l.length
      ·have cM:=NQ f fi cap key hup hps k _ M3 a (a+d) b rfl (by omega) (by omega) (by omega) (by omega) hgM t1 (by rwa [show a+d+d=b by omega] at t2)
       rw [k7] at cM
       have u1 : ∀c,2*d∣c→c<b→BG key (seg (srt key M3 a b) c (c+2*d)):=by have:=ME k1 k4 (by omega);rwa [←k3] at this
       have u2:=RW (b:=b) k5 (by omega) (by omega)
       have u3:=k6.trans (JF (key:=key) (l:=M3) (a:=a) (b:=b) (by omega))
       have u4:=DV (key:=key) (l:=M3) (a:=a) (b:=b) (by omega) (by omega)
       rw [k7] at u4
       generalize srt key M3 a b=M4 at *
       repeat' (first|refine Cs ?_|fail)
       all_goals try exact ZE5
       refine ⟨(b,b+2*d,M4),⟨by dsimp only;rw [k3];exact nJ k1 (nA _),hb,rfl,u1,u2,u3,u4⟩,by dsimp only;omega,?_⟩
       exact Wk.cq 1
      ·by_cases hm:a+d<l.length
       ·have cM:=NQ f fi cap key hup hps k _ M3 a (a+d) l.length rfl (by omega) (by omega) (by omega) (by omega) hgM t1 (by rwa [NI (c:=l.length) (by omega) (by omega)] at t2)
        rw [k7] at cM
        have u1 : ∀c,2*d∣c→BG key (seg (srt key M3 a l.length) c (c+2*d)):=by have:=MD k1 k4 (by omega) (by omega);rwa [k7] at this
        have u3:=k6.trans (JF (key:=key) (l:=M3) (a:=a) (b:=l.length) (by omega))
        have u4:=DV (key:=key) (l:=M3) (a:=a) (b:=l.length) (by omega) (by omega)
        rw [k7] at u4
        rw [lU] at u1
        generalize srt key M3 a l.length=M4 at *
        repeat' (first|refine Cs ?_|fail)
        all_goals try exact ZE5
        refine ⟨(d*2,M4),⟨by dsimp only;omega,by dsimp only;omega,u1,u3,u4⟩,by dsimp only;omega,?_⟩
        exact Wk.cq 1
       ·have u1 : ∀c,2*d∣c→BG key (seg M3 c (c+2*d)):=a_ k1 k4 k5 (by omega)
        rw [lU] at u1
        repeat' (first|refine A0 ?_|fail)
        all_goals try exact ZE5
        refine ⟨(d*2,M3),⟨by dsimp only;omega,by dsimp only;omega,u1,k6,k7⟩,by dsimp only;omega,?_⟩
        exact Wk.cq 1
    ·rw [q6_ g3 g4 (by omega)]
     repeat' (first|refine A0 ?_|fail)
     all_goals exact Ah Tryz.results261
theorem UB (f:FuncId) (fi cap:List AV) (key:DOp→Int) (l:List DOp) (k:Nat) (hl:l.length≤1152921504606846976) (hg:FM (.fn (.func f) fi cap) key l)
  (hup:upB (CM 1) (.fn (.func f) fi cap) = .fn (.func f) fi cap) (hps : ∀heap sel,BH heap sel (.fn (.func f) fi cap) (.fn (.func f) fi cap)) :
  Cio Tryz.prog 247 [.sl 0 k l.length,.fn (.func f) fi cap] [.row k 65 8 (l.map tOp)] (.tup []) [.row k 65 8 ((isort key l).map tOp)]:=by
 have hlt:(l.map tOp).length=l.length:=fN _
 have c1:=o3_ f fi cap key l k hl hg hup hps
 refine ZEN Tryz.func247 Tryz.ntmps247 ?_
 repeat' (first|refine Fc ?_|fail)
 all_goals (exact Fin.q Tryz.results247 .nil [])
def AdZ (a b:DOp):Int:=if a.phase≠b.phase then (if a.phase<b.phase then -1 else 1) else if a.thread≠b.thread then (if a.thread<b.thread then -1 else 1) else 0
theorem q5_ (b:Bool):Cd Tryz.prog 249 [bo b] (i64 (if b then -1 else 1)) []:=by
 cases b
 all_goals
  refine ZEN Tryz.func249 Tryz.ntmps249 ?_
  repeat' (first|refine A0 ?_|fail)
  all_goals (exact A6 Tryz.results249)
theorem AhD (x y:DOp):Cd Tryz.prog 248 [aOp x,aOp y] (i64 (AdZ x y)) []:=by
 obtain ⟨t1,s1,p1,⟨k1,ar1,v1,d1,cs1⟩⟩:=x
 obtain ⟨t2,s2,p2,⟨k2,ar2,v2,d2,cs2⟩⟩:=y
 unfold AdZ
 dsimp only
 by_cases h1:p1=p2
 ·rw [fT (by simp [h1])]
  by_cases h2:t1=t2
  ·rw [fT (by simp [h2])]
   refine Ca ?_
   repeat' (first|refine A0 ?_|fail)
   all_goals exact A2 Tryz.results248
  ·rw [fR h2]
   have cB:=q5_ (decide (t1<t2))
   by_cases h3:t1<t2
   ·rw [fR h3]
    rw [fW h3] at cB
    refine Ca ?_
    repeat' (first|refine Cv ?_|fail)
    all_goals exact A2 Tryz.results248
   ·rw [fT h3]
    rw [fZ h3] at cB
    refine Ca ?_
    repeat' (first|refine Cv ?_|fail)
    all_goals exact A2 Tryz.results248
 ·rw [fR h1]
  have cB:=q5_ (decide (p1<p2))
  by_cases h3:p1<p2
  ·rw [fR h3]
   rw [fW h3] at cB
   refine Ca ?_
   repeat' (first|refine Cv ?_|fail)
   all_goals exact A2 Tryz.results248
  ·rw [fT h3]
   rw [fZ h3] at cB
   refine Ca ?_
   repeat' (first|refine Cv ?_|fail)
   all_goals exact A2 Tryz.results248
theorem AeA {x y:DOp} (hx:sI x.thread) (hy:sI y.thread):AdZ x y<0↔KR x<KR y:=by
 unfold AdZ KR
 unfold sI at hx hy
 repeat' split
 all_goals omega
theorem AaV (l:List DOp) (hl : ∀x∈l,sI x.thread):FM (.fn (.func 248) [] []) KR l:=fun x hx y hy =>
 ⟨AdZ x y,AeA (hl x hx) (hl y hy),⟨_,_,[],[],rfl,Tryz.func248,by kernel_rfl,by kernel_rfl,fun _=>.nil,fun _=>.nil,AhD x y⟩⟩
theorem RZ (l:List DOp) (h:l.length≤1759218604441):Cd Tryz.prog 95 [.ln (l.map tOp)] (.sl 0 0 l.length) [.row 0 65 8 (l.map tOp)]:=by
 refine ZEN Tryz.func95 Tryz.ntmps95 ?_
 repeat' (first|(refine ZAL ?_;first|(refine kL 1513 rfl ?_;first|refine EF rfl rfl 47 _ _ rfl ud47 rfl (fun b hb=>?_))|refine uA ?_)|refine uC ?_|refine kcc rfl (fun hc=>?_) (fun hc=>?_)|fail)
 ·have hl:l=[]:=by simpa using hb hc
  subst hl
  refine Fin.wk (Wk.own 2 rfl 65 8 (.push rfl rfl)) ?_
  exact Ab Tryz.results95
 ·exact Ab Tryz.results95
theorem AmV (l:List DOp) (h:l.length≤1759218604441) (hl : ∀x∈l,sI x.thread):Cd Tryz.prog 219 [.ln (l.map tOp)] (.sl 0 0 l.length) [.row 0 65 8 ((isort KR l).map tOp)]:=by
 have c1:=RZ l (by omega)
 have c2:=fun k=>UB 248 [] [] KR l k (by omega) (AaV l hl) rfl (fun _ _=>.fnL .nil .nil)
 refine ZEN Tryz.func219 Tryz.ntmps219 ?_
 repeat' (first|(refine ZAL ?_;first|refine uA ?_|refine uK (c1) ?_|refine uI [0] (c2 _) ?_)|refine uC ?_|fail)
 all_goals first|(exfalso;omega)|(exact Fin.q Tryz.results219 (.cons (.tmp rfl) .nil) [0])
end
end Go.Proofs.YtccefppppedgkaaGreat
