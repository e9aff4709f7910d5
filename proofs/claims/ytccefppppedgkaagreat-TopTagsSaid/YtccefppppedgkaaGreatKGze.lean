/- Joined: XTTaskD. -/
import Derived.Test.YtccefppppedgkaaGreatKGzc
import Derived.Test.YtccefppppedgkaaGreatKGzd
set_option linter.unusedVariables false
set_option linter.unusedSimpArgs false
set_option linter.unnecessarySimpa false
set_option maxRecDepth 100000
set_option maxHeartbeats 64000000
namespace Go.Proofs.YtccefppppedgkaaGreat
open Go.RowKit
section
attribute [local irreducible] AL AW RG Fin C Cd Cio AI AF AN
section
theorem QW {q:AT} (h:BR q=true):sRq q∧q.cases.length≤3:=by
 unfold BR at h
 simp only [fX,CB,gE,gY] at h
 obtain ⟨⟨⟨⟨a,b⟩,d⟩,e⟩,g⟩:=h
 refine ⟨⟨⟨by omega,by omega⟩,⟨by omega,by omega⟩,⟨by omega,by omega⟩,trivial,⟨by simp only [reachBytes];omega,fun k hk=>?_⟩⟩,e⟩
 have:=g k hk
 unfold CO at this
 simp only [fX,CB,gE] at this
 exact ⟨⟨by omega,by omega⟩,⟨by omega,by omega⟩,⟨by omega,by omega⟩⟩
theorem AhV (c:AB) (l:List Int) (ops:List DOp):allN c l ops ops.length=allO c l ops:=by
 have key : ∀k,k≤ops.length→allN c l ops k=allO c l (ops.take k):=fun k=>by
  induction k with
  |zero=>intro _;rfl
  |succ k ih =>
   intro hk
   have hx:ops[k]? = some ops[k]:=ZgE (by omega)
   rw [TU hx,ih (by omega),iG,hx]
   unfold allO
   rw [jM];rfl
 rw [key _ (fN _),jT]
theorem AbP (q:AT) (p:Int):callC q p=HW q p:=rfl
theorem u8_ (l:List DOp) (h:l.length≤1000000000000):Cd Tryz.prog 95 [.ln (l.map tOp)] (.t (.lst (l.map tOp))) []:=by
 have h0:=QQ l (by omega)
 have h0':=Cd.frz1 h0 0 rfl aB rfl;exact Cd.drop h0' rfl
section
variable (c:AB) (x:AC) (t:Nat) (nt:Int) (wn:Bool) (op:List DOp) (m:Mm) (n:Nat)
theorem r_ (w:Int) (hw:0≤w∧w≤18446744073709551615):Cio Tryz.prog 193 [.ptr 0 0,u64 w] (RO c x t nt wn op m n) (bo (overT x w)) (RO c x t nt wn op m n):=by
 have c1:=GL w hw
 have c2:=b7_ (readR w)
 unfold overT
 generalize readR w=r at *
 by_cases h1:r.seq=x.seq
 ·by_cases h2:r.code≠14
  ·rw [fR ⟨h1,h2⟩]
   rw [fR h2] at c2
   refine ZEN Tryz.func193 Tryz.ntmps193 ?_
   repeat' (first|refine Dx ?_|refine ZK2 (fun hc=>?_) (fun hc=>?_)|fail)
   all_goals exact A4 Tryz.results193
  ·rw [fP (fun e=>h2 e.2)]
   rw [fP h2] at c2
   refine ZEN Tryz.func193 Tryz.ntmps193 ?_
   repeat' (first|refine Dx ?_|refine ZK2 (fun hc=>?_) (fun hc=>?_)|fail)
   all_goals exact A4 Tryz.results193
 ·rw [fP (fun e=>h1 e.1)]
  refine ZEN Tryz.func193 Tryz.ntmps193 ?_
  repeat' (first|refine Dx ?_|refine ZK2 (fun hc=>?_) (fun hc=>?_)|fail)
  all_goals exact A4 Tryz.results193
theorem d_:Cio Tryz.prog 186 [.ptr 0 0] (RO c x t 0 false [] m n) (.tup []) (RO c (ownedT c x m).x t (ownedT c x m).note (ownedT c x m).won (ownedT c x m).ops (ownedT c x m).m n):=by
 have c1:=OB c x t 0 false [] m n
 have c2:=MB x.pool c.retire
 unfold ownedT
 generalize needsP x.pool c.retire=b at *
 generalize finishT x=y at *
 obtain ⟨pc,seq,req,slow,round,i,j,tri,epoch,all_,base,buf,nxt,word,args,found,seen,pool,res,won,waits,scans⟩:=x
 dsimp only [RO,rB] at *
 cases waits
 ·rw [fM (by simp)]
  cases b
  ·rw [fM (by simp)]
   refine ZEN Tryz.func186 Tryz.ntmps186 ?_
   repeat' (first|refine Fb ?_|refine ZK2 (fun hc=>?_) (fun hc=>?_)|fail)
   all_goals exact A9 Tryz.results186
  ·rw [fL rfl]
   refine ZEN Tryz.func186 Tryz.ntmps186 ?_
   repeat' (first|refine Fb ?_|refine ZK2 (fun hc=>?_) (fun hc=>?_)|fail)
   all_goals exact A9 Tryz.results186
 ·rw [fL rfl]
  refine ZEN Tryz.func186 Tryz.ntmps186 ?_
  repeat' (first|(refine ZAL ?_;first|refine uA ?_|refine uI [0,1,2,3,4] (c1) ?_)|(refine ZRG ?_;first|refine uR ?_|refine AZ (c2) ?_)|refine uC ?_|refine AW.drawU (id:=3) mixed 0 qR ?_|refine ZK2 (fun hc=>?_) (fun hc=>?_)|fail)
  all_goals exact A9 Tryz.results186
theorem PF (hs:c.start.length≤1152921504606846976) (ht:t<64) (hi:0≤x.i∧x.i<64) (hc:c.threads≤64) (hU:okU x.buf) (hb:(x.buf.length:Int)≤1000) (hfo : ∀o∈x.found,t5_ o) (hfl:x.found.length≤1048577) (hsq:0≤x.seq∧x.seq≤1048575) (hfit:BR x.req=true) :
  Cio Tryz.prog 179 [.ptr 0 0] (RO c x t nt wn op m n) (.tup []) (RO c (nextMailT c t x) t nt wn op m n):=by
 unfold nextMailT
 by_cases h1:x.i+1<c.threads
 ·rw [fL h1]
  refine ZEN Tryz.func179 Tryz.ntmps179 ?_
  repeat' (first|refine uA ?_|(refine ZRG ?_;first|refine Bk ?_|refine uR ?_)|refine uC ?_|refine Fc ?_|refine ZK2 (fun hc=>?_) (fun hc=>?_)|fail)
  all_goals exact A9 Tryz.results179
 ·rw [fM h1]
  have co:=AkT x.found (by omega) (fun o ho=>by have:=(hfo o ho).t;exact ⟨by omega,by omega⟩)
  have hle:(isort KF x.found).length=x.found.length:=CC _
  have hop : ∀o∈GW t x,t5_ o:=by
   unfold GW
   split
   ·exact fun o ho=>hfo o (ED.1 ho)
   ·intro o ho
    rcases gJ.1 ho with ho|ho
    ·exact hfo o (ED.1 ho)
    ·rw [iT.1 ho]
     exact ⟨⟨by dsimp only;omega,by dsimp only;omega⟩,hsq,⟨gG _,(by decide:(0:Int)≤4294967295)⟩,hfit⟩
  have hol:(GW t x).length≤x.found.length+1:=by
   unfold GW
   split
   ·omega
   ·rw [fJ,hle];exact fN _
  have ca:=AuJ c x.buf (GW t x) hs hU (by omega) (by omega) (fun o ho=>(QW (hop o ho).f).1) (fun o ho=>by have:=(QW (hop o ho).f).2;omega)
  rw [AhV] at ca
  generalize allO c x.buf (GW t x)=l at *
  obtain ⟨pc,seq,req,slow,round,i,j,tri,epoch,all_,base,buf,nxt,word,args,found,seen,pool,res,won,waits,scans⟩:=x
  dsimp only [GW,RO,rB] at *
  have e1:((isort KF found).map tOp).length=found.length:=by rw [fH,hle]
  cases slow
  ·rw [fM (by simp)] at *
   have e2:(isort KF found++[(⟨(t:Int),seq,0,req⟩:DOp)]).length=found.length+1:=by rw [fJ,hle];rfl
   generalize isort KF found=so at *
   refine ZEN Tryz.func179 Tryz.ntmps179 ?_
   repeat' (first|refine Fd ?_|refine ZK2 (fun hc=>?_) (fun hc=>?_)|fail)
   all_goals exact A9 Tryz.results179
  ·rw [fL rfl] at *
   generalize isort KF found=so at *
   refine ZEN Tryz.func179 Tryz.ntmps179 ?_
   repeat' (first|refine Fd ?_|refine ZK2 (fun hc=>?_) (fun hc=>?_)|fail)
   all_goals exact A9 Tryz.results179
end
end
end
end Go.Proofs.YtccefppppedgkaaGreat
