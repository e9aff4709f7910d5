/- Joined: XTHallR, XTHallH, XTFitsR, XTPutR, XTRead, XTReadH, XTReadX, XTReadR, XTReadS, XTStartO, XTSortOW, XTObjO. -/
import Derived.Test.YtccefppppedgkaaGreatKGs
import Derived.Test.YtccefppppedgkaaGreatKGz
import Derived.Test.YtccefppppedgkaaGreatKGx
set_option linter.unusedVariables false
set_option linter.unusedSimpArgs false
set_option linter.unnecessarySimpa false
set_option maxRecDepth 100000
set_option maxHeartbeats 64000000
namespace Go.Proofs.YtccefppppedgkaaGreat
open Go.RowKit
section
attribute [local irreducible] AL AW RG Fin C Cd Cio AI AF AN
abbrev fCh (x:AX):AV:=.agg [i64 x.gen,i64 x.cap,bo x.used,bo x.closed,.t (.lst (x.buf.map tI))]
abbrev fWt (w:AH):AV:=.agg [bo w.on,i64 w.ticket,i64 w.seq,.t (.lst (w.cases.map tCs))]
abbrev fHl (h:AM):AV:=.agg [i64 h.ticket,.t (.lst (h.chans.map tCh)),.t (.lst (h.waits.map tWt)),.t (.lst (h.done.map tR))]
abbrev fCl (x:CL):AV:=.agg [i64 x.cap,.t (.lst (x.list.map tI)),.t (.lst (x.done.map tR))]
theorem WY {l:List Int} (h:okU l) {i:Nat} {a:Int} (ha:l[i]? = some a):0≤a∧a≤18446744073709551615:=h a (fI ha)
theorem MM {l:List Int} {i:Nat} {a:Int} (ha:l[i]? = some a) (hl:l.length≤1000000):Cio Tryz.prog 271 [.ptr 0 0] [aRd (l.drop i)] (u64 a) [aRd (l.drop (i+1))]:=by
 have cN:=PX (l.drop i) bA
 rwa [CU ha,lT,gN,iA, ←CU ha] at cN
theorem AgA (l:List Int) (hU:okU l) (m cap:Int) (n i:Nat) (hc:cap=n) (hn:i+n≤l.length) (hl:l.length≤1000000) (hm : -9223372036854775808≤m∧m≤9223372036854775807) :
  Cio Tryz.prog 279 [.ptr 0 0,i64 m,i64 cap] [aRd (l.drop i)] (.t (.lst ((CZ (l.drop i) n m).map tI))) [aRd (l.drop (i+n))]:=by
 subst hc
 have:=ArS (l.drop i) (b2_ hU i) m n bA bA hm
 rwa [jV] at this
theorem AlK (l:List Int) (hU:okU l) (n:Nat) (hn:n≤l.length) (hl:l.length≤1000000) :
  Cio Tryz.prog 274 [.ptr 0 0,i64 n] [aRd l] (.t (.lst ((GX l n).map tR))) [aRd (l.drop n)]:=by
 have hz:GX l 0=[]:=by simp [GX]
 refine ZEN Tryz.func274 Tryz.ntmps274 ?_
 repeat' (first|refine A0 ?_|fail)
 refine AW.wk (Wk.own 5 rfl 53 4 (.push rfl rfl)) ?_
 refine AW.loopP (fun (i:Nat)=>i≤n) (fun (i:Nat)=>(pu (pu (pu (pu (fun _=>.any) 0 (.ptr 0 0)) 5 (.sl 1 i i)) 6 (i64 n)) 7 (i64 i))) (fun (i:Nat)=>[aRd (l.drop i),.row i 53 4 ((GX l i).map tR)]) (fun (i:Nat)=>n-i) (0) ?_ ?_ ?_
 ·exact fO _
 ·rw [hz]
  exact Wk.cq 2
 ·intro i h2
  have hL:(GX l i).length=i:=by simp [GX];omega
  by_cases hi:i<n
  ·obtain ⟨a,ha⟩ : ∃a,l[i]? = some a:=⟨_,ZgE (by omega)⟩
   have cN:=MM ha hl
   have cR:=GL a (WY hU ha)
   have hs:GX l (i+1)=GX l i++[readR a]:=by unfold GX;rw [iG,ha];simp
   repeat' (first|(refine ZAL ?_;first|(refine kL 3055 rfl ?_;first|refine A_lit rfl rfl 95 1 _ rfl ud95 inf53 (.cons rfl .nil) (els:=[[_,_,_,_]]) rfl (by exact (rfl:_=List.map tR [⟨_,_,_,_⟩])) rfl (fT rfl) (ZbT rfl) (ZbT rfl) (.push qL qN) ?_)|refine uA ?_|refine uI [0] (cN) ?_|refine uK (cR) ?_)|refine uC ?_|fail)
   all_goals try exact ZE5
   refine ⟨i+1,by omega,by omega,?_⟩
   rw [hs]
   exact Wk.cq 2
  ·obtain rfl:i=n:=by omega
   repeat' (first|(refine ZAL ?_;first|refine F7 ?_|(refine kL 3055 rfl ?_;first|refine A_lit rfl rfl 95 1 _ rfl ud95 inf53 (.cons rfl .nil) (els:=[[_,_,_,_]]) rfl bG rfl (fT rfl) (ZbT rfl) (ZbT rfl) (.push qL qN) ?_)|(refine kL 12 rfl ?_;first|refine A_append_nlsub rfl rfl _ _ 95 rfl ud95 inf53 rfl rfl rfl rfl aK qB qB iW.symm (.push qL qN) ?_)|refine uA ?_)|refine uC ?_|refine ZK2 (fun hc=>?_) (fun hc=>?_)|fail)
   all_goals exact A2 Tryz.results274
theorem r1_ (l:List Int) (hU:okU l) (th:Int) (n i:Nat) (hc:th=n) (hn:i+n≤l.length) (hl:l.length≤1000000) :
  Cio Tryz.prog 274 [.ptr 0 0,i64 th] [aRd (l.drop i)] (.t (.lst ((GX (l.drop i) n).map tR))) [aRd (l.drop (i+n))]:=by
 subst hc
 have:=AlK (l.drop i) (b2_ hU i) n bA bA
 rwa [jV] at this
theorem AlA (c:AB) (n:Nat) (hc:c.cap=n) (l:List Int) (hU:okU l) (i:Nat) (hn:i+(n+1)≤l.length) (hl:l.length≤1000000) :
  Cio Tryz.prog 272 [.ptr 0 0,aCf c] [aRd (l.drop i)] (fCh (rdC n (l.drop i))) [aRd (l.drop (i+(n+1)))]:=by
 obtain ⟨a,ha⟩ : ∃a,l[i]? = some a:=⟨_,ZgE (by omega)⟩
 have hb:=WY hU ha
 have cN:=MM ha hl
 have cR:=AgA l hU (a/1048576%16) c.cap n (i+1) hc (by omega) hl (by omega)
 have e0:(l.drop i).headD 0=a:=by rw [CU ha];rfl
 unfold rdC
 rw [e0,jV,show i+(n+1)=i+1+n by omega]
 refine ZEN Tryz.func272 Tryz.ntmps272 ?_
 repeat' (first|(refine ZAL ?_;first|(refine kL 1481 rfl ?_;first|refine A_bits rfl rfl .and 46 46 _ _ rfl rfl rfl rfl (and_lit 12 (M:=4096) rfl rfl (by omega) (by omega) (by omega)) ?_|refine A_shr rfl rfl 46 159 _ _ rfl rfl rfl (by decide) (fdiv_lit (m:=4096) rfl (by decide)) ?_|refine A_bits rfl rfl .and 46 46 _ _ rfl rfl rfl rfl (and_lit 4 (M:=16) rfl rfl (by omega) (by omega) (by omega)) ?_|refine A_shr rfl rfl 46 159 _ _ rfl rfl rfl (by decide) (fdiv_lit (m:=65536) rfl (by decide)) ?_|refine A_bits rfl rfl .and 46 46 _ _ rfl rfl rfl rfl (and_lit 1 (M:=2) rfl rfl (by omega) (by omega) (by omega)) ?_|refine A_shr rfl rfl 46 159 _ _ rfl rfl rfl (by decide) (fdiv_lit (m:=131072) rfl (by decide)) ?_|refine A_shr rfl rfl 46 159 _ _ rfl rfl rfl (by decide) (fdiv_lit (m:=1048576) rfl (by decide)) ?_)|refine uA ?_|refine uI [0] (cN) ?_|refine uI [0] (cR) ?_)|refine uC ?_|fail)
 all_goals first|(exfalso;omega)|(exact Fin.q Tryz.results272 (.cons (.agg rfl rfl ud101 rfl inf101 (us:=[_,_,_,_,_]) rfl rfl) .nil) [])
def KI (l:List Int) (i:Nat) (m:Int):List BD:=(l.take (min m.toNat i)).map rdK
theorem y_ {l:List Int} {i:Nat} {a m:Int} (ha:l[i]? = some a) (h:(i:Int)<m):KI l (i+1) m=KI l i m++[rdK a]:=by
 unfold KI
 rw [show min m.toNat (i+1)=i+1 by omega,show min m.toNat i=i by omega,iG,ha];simp
theorem x9_ {l:List Int} {i:Nat} {m:Int} (h : ¬(i:Int)<m):KI l (i+1) m=KI l i m:=by
 unfold KI
 rw [show min m.toNat (i+1)=m.toNat by omega,show min m.toNat i=m.toNat by omega]
theorem AlO (l:List Int) (hU:okU l) (i0:Nat) (hn:i0+4≤l.length) (hl:l.length≤1000000) :
  Cio Tryz.prog 273 [.ptr 0 0] [aRd (l.drop i0)] (fWt (rdW (l.drop i0))) [aRd (l.drop (i0+4))]:=by
 obtain ⟨a,ha⟩ : ∃a,l[i0]? = some a:=⟨_,ZgE (by omega)⟩
 have hb:=WY hU ha
 have cN:=MM ha hl
 have e0:(l.drop i0).headD 0=a:=by rw [CU ha];rfl
 have e1:(((l.drop i0).drop 1).take 3).take (a/2%8).toNat=(l.drop (i0+1)).take (min (a/2%8).toNat 3):=by rw [jV,List.take_take]
 unfold rdW
 rw [e0,e1]
 have hz:KI (l.drop (i0+1)) 0 (a/2%8)=[]:=by simp [KI]
 refine ZEN Tryz.func273 Tryz.ntmps273 ?_
 repeat' (first|(refine ZAL ?_;first|(refine kL 1481 rfl ?_;first|refine A_bits rfl rfl .and 46 46 _ _ rfl rfl rfl rfl (and_lit 1 (M:=2) rfl rfl (by omega) (by omega) (by omega)) ?_|refine A_shr rfl rfl 46 159 _ _ rfl rfl rfl (by decide) (fdiv_lit (m:=16) rfl (by decide)) ?_|refine A_bits rfl rfl .and 46 46 _ _ rfl rfl rfl rfl (and_lit 20 (M:=1048576) rfl rfl (by omega) (by omega) (by omega)) ?_|refine A_shr rfl rfl 46 159 _ _ rfl rfl rfl (by decide) (fdiv_lit (m:=4294967296) rfl (by decide)) ?_|refine A_shr rfl rfl 46 159 _ _ rfl rfl rfl (by decide) (fdiv_lit (m:=2) rfl (by decide)) ?_|refine A_bits rfl rfl .and 46 46 _ _ rfl rfl rfl rfl (and_lit 3 (M:=8) rfl rfl (by omega) (by omega) (by omega)) ?_)|refine uA ?_|refine uI [0] (cN) ?_)|refine uC ?_|fail)
 all_goals try exact ZE5
 refine AW.wk (Wk.ownB 2 3 rfl rfl 141 3 (.push rfl rfl) rfl) ?_
 refine AW.loopP (fun (x:Nat × Nat × Nat)=>x.1≤3∧x.2.2=(KI (l.drop (i0+1)) x.1 (a/2%8)).length) (fun (x:Nat × Nat × Nat)=>(pu (pu (pu (pu (pu (fun _=>.any) 0 (.ptr 0 0)) 2 (.ptr 1 0)) 4 (.ptr 2 0)) 5 (i64 (a/2%8))) 25 (i64 x.1))) (fun (x:Nat × Nat × Nat)=>[aRd (l.drop (i0+1+x.1)),.box 167 [bo false,i64 0,i64 0,.nl],.box 167 [bo (decide (a%2=1)),i64 (a/4294967296),i64 (a/16%1048576),.sl 3 x.2.1 x.2.2],.row x.2.1 141 3 ((KI (l.drop (i0+1)) x.1 (a/2%8)).map tCs)]) (fun (x:Nat × Nat × Nat)=>3-x.1) ((0,0,0)) ?_ ?_ ?_
 ·exact ⟨fO _,by rw [hz];rfl⟩
 ·dsimp only
  rw [hz]
  exact Wk.cq 4
 ·rintro ⟨i,k,c⟩ ⟨h2,h3⟩
  dsimp only at h2 h3 ⊢
  have hR:(KI (l.drop (i0+1)) i (a/2%8)).length≤i:=by simp [KI];omega
  by_cases hi:i<3
  ·obtain ⟨b,hb1⟩ : ∃b,l[i0+1+i]? = some b:=⟨_,ZgE (by omega)⟩
   have hb2:(l.drop (i0+1))[i]? = some b:=by rw [gC];exact hb1
   have hbb:=WY hU hb1
   have cN:=MM hb1 hl
   by_cases hk:(i:Int)<a/2%8
   ·have hs:KI (l.drop (i0+1)) (i+1) (a/2%8)=KI (l.drop (i0+1)) i (a/2%8)++[⟨b%256,b/256%65536,b/4294967296⟩]:=y_ hb2 hk
    repeat' (first|(refine ZAL ?_;first|(refine kL 1481 rfl ?_;first|refine A_shr rfl rfl 46 159 _ _ rfl rfl rfl (by decide) (fdiv_lit (m:=4294967296) rfl (by decide)) ?_|refine A_bits rfl rfl .and 46 46 _ _ rfl rfl rfl rfl (and_lit 8 (M:=256) rfl rfl (by omega) (by omega) (by omega)) ?_|refine A_shr rfl rfl 46 159 _ _ rfl rfl rfl (by decide) (fdiv_lit (m:=256) rfl (by decide)) ?_|refine A_bits rfl rfl .and 46 46 _ _ rfl rfl rfl rfl (and_lit 16 (M:=65536) rfl rfl (by omega) (by omega) (by omega)) ?_)|(refine kL 975 rfl ?_;first|refine A_lit rfl rfl 30 1 _ rfl ud30 inf141 (.cons rfl .nil) (els:=[[_,_,_]]) rfl (by exact (rfl:_=List.map tCs [⟨_,_,_⟩])) rfl (fT rfl) (ZbT rfl) (ZbT rfl) (.push qL qN) ?_)|refine uA ?_|refine uI [0] (cN) ?_)|refine uC ?_|fail)
    all_goals try exact ZE5
    refine ⟨(i+1,k+1,c+1),⟨by dsimp only;omega,by dsimp only;rw [hs];simp;omega⟩,by dsimp only;omega,?_⟩
    rw [hs]
    exact Wk.cq 4
   ·have hs:KI (l.drop (i0+1)) (i+1) (a/2%8)=KI (l.drop (i0+1)) i (a/2%8):=x9_ hk
    repeat' (first|(refine ZAL ?_;first|refine uA ?_|refine uI [0] (cN) ?_)|refine uC ?_|fail)
    all_goals try exact ZE5
    refine ⟨(i+1,k,c),⟨by dsimp only;omega,by dsimp only;rw [hs];exact h3⟩,by dsimp only;omega,?_⟩
    rw [hs]
    exact Wk.cq 4
  ·obtain rfl:i=3:=by omega
   subst h3
   refine AW.wk (Wk.freezeB 3 rfl 2 rfl (.cons bS (.cons bS (.cons bS (.cons bS (.nil))))) rfl) ?_
   repeat' (first|refine A0 ?_|fail)
   all_goals first|(exfalso;omega)|(exact Fin.q Tryz.results273 (.cons (.agg rfl rfl AgZ rfl inf167 (us:=[_,_,_,_]) rfl rfl) .nil) [])
theorem YY (a b:List Int) (ha:a.length≤1152921504606846976):Cd Tryz.prog 275 [.ln (a.map tU),.ln (b.map tU)] (bo (decide (a=b))) []:=by
 have h1:(a.map tU).length=a.length:=fH _
 have h2:(b.map tU).length=b.length:=fH _
 refine ZEN Tryz.func275 Tryz.ntmps275 ?_
 repeat' (first|refine A0 ?_|refine kcp rfl (fun hc=>?_) (fun hc=>?_)|fail)
 ·refine A7 Tryz.results275 ?_
  have:a≠b:=by rintro rfl;exact hc rfl
  simp [this]
 ·refine AW.loopP (fun (i:Nat)=>∀j,j<i→a.getD j 0=b.getD j 0) (fun (i:Nat)=>(pu (pu (pu (pu (pu (fun _=>.any) 0 (.ln (a.map tU))) 1 (.ln (b.map tU))) 4 (.t (.v (.bool false)))) 12 (i64 (a.map tU).length)) 13 (i64 i))) (fun (i:Nat)=>[]) (fun (i:Nat)=>a.length+1-i) (0) ?_ ?_ ?_
  ·intro j hj;omega
  ·exact Wk.cq 0
  ·intro i hi
   repeat' (first|refine uA ?_|refine uR ?_|refine uC ?_|refine AW.drawU (id:=6) mixed 0 qR ?_|refine kcp rfl (fun hc=>?_) (fun hc=>?_)|fail)
   ·refine A7 Tryz.results275 ?_
    have:a≠b:=by rintro rfl;exact hc rfl
    simp [this]
   ·refine ⟨i+1,fun j hj=>?_,by omega,?_⟩
    ·by_cases e:j=i
     ·subst e;exact Decidable.not_not.1 hc
     ·exact hi j (by omega)
    ·exact Wk.cq 0
   ·refine A7 Tryz.results275 ?_
    have:a=b:=AbA (z:=0) (by omega) fun j hj=>hi j (by omega)
    simp [this]
theorem x8_ (n:Nat) (l:List Int) (i:Nat):NZ n l (i+1)=NZ n l i++[rdC n (l.drop (i*(n+1)))]:=by unfold NZ;rw [kD];simp
theorem y2_ (l:List Int) (i:Nat):SH l (i+1)=SH l i++[rdW (l.drop (i*4))]:=by unfold SH;rw [kD];simp
theorem SF (n:Nat) (l:List Int) (i:Nat):(NZ n l i).length=i:=by simp [NZ]
theorem c4_ (l:List Int) (i:Nat):(SH l i).length=i:=by simp [SH]
theorem AkS (c:AB) (l:List Int) (h:l.length≤1000000) (h1:c.chans.toNat≤1000000) (h2:c.threads.toNat≤1000000):okH (KY c l):=by
 refine ⟨?_,fun x hx=>?_,?_,fun x hx=>?_,?_⟩
 ·show (NZ _ _ _).length≤_;rw [SF];omega
 ·obtain ⟨i,_,rfl⟩:=iP.1 hx
  show (CZ _ _ _).length≤_
  unfold CZ;simp;omega
 ·show (SH _ _).length≤_;rw [c4_];omega
 ·obtain ⟨i,_,rfl⟩:=iP.1 hx
  show (((List.take _ _).map rdK).length)≤_
  simp;omega
 ·show (GX _ _).length≤_;unfold GX;simp;omega
theorem AjZ {c:AB} {l:List Int} (h : ¬(AY c=true∧c.kind=3∧(l.length:Int)=sizeC c)):GV c l=false:=by
 unfold GV
 cases hk:AY c
 ·rfl
 ·by_cases k:c.kind=3
  ·have : ¬(l.length:Int)=sizeC c:=fun e=>h ⟨hk,k,e⟩
   rw [fP this];simp
  ·rw [fP k];rfl
theorem AdX {c:AB} {l:List Int} (hk:AY c=true) (k:c.kind=3) (e:(l.length:Int)=sizeC c):GV c l=decide (putH c (KY c l)=l):=by
 unfold GV;rw [hk,fR k,fR e];rfl
theorem AeR {c:AB} {l:List Int} (h:GV c l=false):readH c l=noH:=by unfold readH;rw [h];rfl
theorem AkY {c:AB} {l:List Int} (h:GV c l=true):readH c l=KY c l:=by unfold readH;rw [h];rfl
abbrev AuS (c:AB):List AV:=[i64 c.kind,i64 c.threads,i64 c.chans,i64 c.cap,i64 c.nodes,i64 c.retire,i64 c.patience,i64 c.tags,i64 c.seqs,i64 c.gens,.ln (c.start.map tI)]
theorem AlF (c:AB) (l:List Int) (hs:c.start.length≤1152921504606846976) (hU:okU l) (hl0:l.length≤1152921504606846976):Cd Tryz.prog 263 [aCf c,fU l] (.tup [fHl (readH c l),bo (GV c l)]) []:=by
 have c1:=EH c hs
 have c2:=j7_ c hs
 have g1:(l.map tU).length=l.length:=fH _
 by_cases hA:AY c=true∧c.kind=3∧(l.length:Int)=sizeC c
 ·obtain ⟨h0,h1,h2⟩:=hA
  rw [h0] at c1
  have hsh:=AJ h0
  have hb:=hsh.h3 h1
  have ht0:=hsh.t0
  have ht1:=hsh.t1
  obtain ⟨n,hn⟩ : ∃n:Nat,c.cap=n:=⟨c.cap.toNat,by omega⟩
  obtain ⟨m,hm⟩ : ∃m:Nat,c.chans=m:=⟨c.chans.toNat,by omega⟩
  obtain ⟨t,ht⟩ : ∃t:Nat,c.threads=t:=⟨c.threads.toNat,by omega⟩
  have hlen:l.length=1+m*(n+1)+t*4+t:=by
   have h3:=h2
   rw [MU h0 h1,hn,hm,ht] at h3
   have e:((m*(n+1):Nat):Int)=(m:Int)*(1+n):=by rw [Int.natCast_mul];congr 1;omega
   omega
  have hmn:m*(n+1)≤72:=iZ (Nat.mul_le_mul (show m≤8 by omega) (show n+1≤9 by omega)) (by decide)
  have hl:l.length≤1000000:=by omega
  have hmul : ∀i,i≤m→i*(n+1)≤m*(n+1):=fun i hi=>gV _ hi
  have hN:=PX l hl0
  have hb0:=UQ hU
  have hraw:KY c l=⟨l.headD 0%4294967296,NZ n (l.drop 1) m,SH (l.drop (1+m*(n+1))) t,GX (l.drop (1+m*(n+1)+t*4)) t⟩:=by unfold KY;rw [hn,hm,ht];rfl
  have cP:=i9_ c (KY c l) hs (AkS c l hl (by omega) (by omega))
  have hpl:(putH c (KY c l)).length≤1152921504606846976:=by
   cases hf:DS c (KY c l)
   ·unfold putH;rw [hf];exact fO _
   ·have:=MI hf;omega
  have cE:=YY (putH c (KY c l)) l hpl
  have hmay:=AdX h0 h1 h2
  rw [hraw] at cP
  refine ZEN Tryz.func263 Tryz.ntmps263 ?_
  repeat' (first|(refine ZAL ?_;first|refine Ag ?_|refine uA ?_|refine uK (c1) ?_|refine uK (c2) ?_|refine uI [2] (hN) ?_)|(refine ZRG ?_;first|refine Be ?_|refine Bf ?_|refine uR ?_)|refine uC ?_|refine Bh ?_|refine uS 11 (fun hb=>?_) (fun hb=>?_)|refine uS 16 (fun hb=>?_) (fun hb=>?_)|refine ZK2 (fun hc=>?_) (fun hc=>?_)|fail)
  all_goals try exact ZE5
  refine AW.wk (Wk.ownB 3 1 rfl rfl 101 5 (.push rfl rfl) rfl) ?_
  refine AW.loopP (fun (i:Nat)=>i≤m) (fun (i:Nat)=>(pu (pu (pu (pu (pu (pu (pu (fun _=>.any) 1 (fU l)) 2 (.ptr 0 0)) 4 (.ptr 1 0)) 6 (.ptr 2 0)) 7 (.ptr 3 0)) 33 (i64 c.chans)) 34 (i64 i))) (fun (i:Nat)=>[.box 24 (AuS c),.box 97 [i64 0,.nl,.nl,.nl],aRd (l.drop (1+i*(n+1))),.box 97 [i64 (l.headD 0%4294967296),.sl 4 i i,.nl,.nl],.row i 101 5 ((NZ n (l.drop 1) i).map tCh)]) (fun (i:Nat)=>m-i) (0) ?_ ?_ ?_
  ·exact fO _
  ·rw [Nat.zero_mul]
   exact Wk.cq 5
  ·intro i h3
   have hL:=SF n (l.drop 1) i
   have hLt:(NZ n l.tail i).length=i:=SF n l.tail i
   have hM:=hmul i h3
   by_cases hi:i<m
   ·have hM1:=hmul (i+1) hi
    have e1:1+(i+1)*(n+1)=1+i*(n+1)+(n+1):=by rw [jX];omega
    have cC:=AlA c n hn l hU (1+i*(n+1)) (by omega) hl
    have hsx:=x8_ n (l.drop 1) i
    rw [jV] at hsx
    repeat' (first|(refine ZAL ?_;first|(refine kL 3107 rfl ?_;first|refine A_store_rp rfl rfl 97 _ _ rfl inf97 (by decide) rfl rfl aI rfl rfl rfl (ZbT rfl) dW qN ?_)|refine Ag ?_|(refine kL 3043 rfl ?_;first|refine A_store_rp rfl rfl 95 _ _ rfl AdK (by decide) rfl rfl aI rfl rfl rfl (ZbT rfl) dW qN ?_)|refine uA ?_)|(refine ZRG ?_;first|(refine kR 2991 rfl ?_;first|refine R_lit rfl rfl 93 1 _ rfl ud93 inf101 (.cons rfl .nil) (els:=[[_,_,_,_,_]]) rfl dV rfl (fT rfl) (ZbT rfl) (ZbT rfl) qh qN ?_)|(refine kR 12 rfl ?_;first|refine R_append rfl rfl _ _ 93 rfl ud93 inf101 rfl rfl rfl cY aA qB qB (by first|exact app_map aG|exact app_one (f:=tCh) (x:=⟨_,_,_,_,_⟩) aG|exact qN) qN qS ?_|refine R_append rfl rfl _ _ 94 rfl ud94 inf167 rfl rfl rfl cY aA qB qB (by first|exact app_map aG|exact app_one (f:=tCh) (x:=⟨_,_,_,_,_⟩) aG|exact qN) qN qS ?_|refine CR rfl rfl _ _ 93 rfl ud93 inf101 rfl rfl aA qB qB dV qh qN qS ?_|refine CR rfl rfl _ _ 94 rfl ud94 inf167 rfl rfl aA qB qB dV qh qN qS ?_)|(refine kR 2979 rfl ?_;first|refine R_store_rp rfl rfl 93 _ _ rfl AdJ (by decide) rfl rfl aI rfl rfl rfl (ZbT rfl) dW qN ?_)|(refine kR 3023 rfl ?_;first|refine R_lit rfl rfl 94 1 _ rfl ud94 inf167 (.cons rfl .nil) (els:=[[_,_,_,_]]) rfl dV rfl (fT rfl) (ZbT rfl) (ZbT rfl) qh qN ?_)|(refine kR 3011 rfl ?_;first|refine R_store_rp rfl rfl 94 _ _ rfl ZM (by decide) rfl rfl aI rfl rfl rfl (ZbT rfl) dW qN ?_)|refine uR ?_|refine uJ [2] (cC) ?_)|refine uC ?_|(first|refine AW.drawU (id:=7) mixed 2 qR ?_|refine AW.drawU (id:=11) mixed 2 qR ?_)|refine uS 11 (fun hb=>?_) (fun hb=>?_)|refine uS 16 (fun hb=>?_) (fun hb=>?_)|refine ZK2 (fun hc=>?_) (fun hc=>?_)|fail)
    all_goals try exact ZE5
    refine ⟨i+1,by omega,by omega,?_⟩
    rw [hsx,e1]
    exact Wk.cq 5
   ·obtain rfl:i=m:=by omega
    refine AW.wk (Wk.freezeB 4 rfl 3 rfl (.cons (.same _) (.cons (.all dC) (.cons (.same _) (.cons (.same _) (.nil))))) rfl) ?_
    repeat' (first|(refine ZAL ?_;first|refine Ag ?_|refine uA ?_)|(refine ZRG ?_;first|refine Be ?_|refine Bf ?_|refine uR ?_)|refine uC ?_|refine Bh ?_|refine uS 11 (fun hb=>?_) (fun hb=>?_)|refine uS 16 (fun hb=>?_) (fun hb=>?_)|refine ZK2 (fun hc=>?_) (fun hc=>?_)|fail)
    all_goals try exact ZE5
    refine AW.wk (Wk.ownB 3 2 rfl rfl 167 4 (.push rfl rfl) rfl) ?_
    refine AW.loopP (fun (j:Nat)=>j≤t) (fun (j:Nat)=>(pu (pu (pu (pu (pu (pu (pu (fun _=>.any) 1 (fU l)) 2 (.ptr 0 0)) 4 (.ptr 1 0)) 6 (.ptr 2 0)) 7 (.ptr 3 0)) 46 (i64 c.threads)) 47 (i64 j))) (fun (j:Nat)=>[.box 24 (AuS c),.box 97 [i64 0,.nl,.nl,.nl],aRd (l.drop (1+i*(n+1)+j*4)),.box 97 [i64 (l.headD 0%4294967296),.t (.lst ((NZ n (l.drop 1) i).map tCh)),.sl 4 j j,.nl],.row j 167 4 ((SH (l.drop (1+i*(n+1))) j).map tWt)]) (fun (j:Nat)=>t-j) (0) ?_ ?_ ?_
    ·exact fO _
    ·rw [Nat.zero_mul]
     exact Wk.cq3 [0,1,2,3,5]
    ·intro j h4
     have hL2:=c4_ (l.drop (1+i*(n+1))) j
     by_cases hj:j<t
     ·have e1:1+i*(n+1)+(j+1)*4=1+i*(n+1)+j*4+4:=by omega
      have cW:=AlO l hU (1+i*(n+1)+j*4) (by omega) hl
      have hsx:=y2_ (l.drop (1+i*(n+1))) j
      rw [jV] at hsx
      repeat' (first|(refine ZAL ?_;first|(refine kL 3107 rfl ?_;first|refine A_store_rp rfl rfl 97 _ _ rfl inf97 (by decide) rfl rfl aI rfl rfl rfl (ZbT rfl) bI qN ?_)|refine Ag ?_|(refine kL 3043 rfl ?_;first|refine A_store_rp rfl rfl 95 _ _ rfl AdK (by decide) rfl rfl aI rfl rfl rfl (ZbT rfl) bI qN ?_)|refine uA ?_)|(refine ZRG ?_;first|(refine kR 2991 rfl ?_;first|refine R_lit rfl rfl 93 1 _ rfl ud93 inf101 (.cons rfl .nil) (els:=[[_,_,_,_,_]]) rfl dY rfl (fT rfl) (ZbT rfl) (ZbT rfl) qh qN ?_)|(refine kR 12 rfl ?_;first|refine R_append rfl rfl _ _ 93 rfl ud93 inf101 rfl rfl rfl cY aA qB qB (by first|exact app_map aG|exact app_one (f:=tWt) (x:=⟨_,_,_,_⟩) aG|exact qN) qN qS ?_|refine R_append rfl rfl _ _ 94 rfl ud94 inf167 rfl rfl rfl cY aA qB qB (by first|exact app_map aG|exact app_one (f:=tWt) (x:=⟨_,_,_,_⟩) aG|exact qN) qN qS ?_|refine CR rfl rfl _ _ 93 rfl ud93 inf101 rfl rfl aA qB qB dY qh qN qS ?_|refine CR rfl rfl _ _ 94 rfl ud94 inf167 rfl rfl aA qB qB dY qh qN qS ?_)|(refine kR 2979 rfl ?_;first|refine R_store_rp rfl rfl 93 _ _ rfl AdJ (by decide) rfl rfl aI rfl rfl rfl (ZbT rfl) bI qN ?_)|(refine kR 3023 rfl ?_;first|refine R_lit rfl rfl 94 1 _ rfl ud94 inf167 (.cons rfl .nil) (els:=[[_,_,_,_]]) rfl dY rfl (fT rfl) (ZbT rfl) (ZbT rfl) qh qN ?_)|(refine kR 3011 rfl ?_;first|refine R_store_rp rfl rfl 94 _ _ rfl ZM (by decide) rfl rfl aI rfl rfl rfl (ZbT rfl) bI qN ?_)|refine uR ?_|refine uJ [2] (cW) ?_)|refine uC ?_|(first|refine AW.drawU (id:=7) mixed 2 qR ?_|refine AW.drawU (id:=11) mixed 2 qR ?_)|refine uS 11 (fun hb=>?_) (fun hb=>?_)|refine uS 16 (fun hb=>?_) (fun hb=>?_)|refine ZK2 (fun hc=>?_) (fun hc=>?_)|fail)
      all_goals try exact ZE5
      refine ⟨j+1,by omega,by omega,?_⟩
      rw [hsx,e1]
      exact Wk.cq 5
     ·obtain rfl:j=t:=by omega
      refine AW.wk (Wk.freezeB 4 rfl 3 rfl (.cons (.same _) (.cons (.same _) (.cons (.all dC) (.cons (.same _) (.nil))))) rfl) ?_
      have cR:=r1_ l hU c.threads j (1+i*(n+1)+j*4) ht (by omega) hl
      by_cases e:putH c (KY c l)=l
      ·rw [fR e] at cE hmay
       rw [AkY hmay,hmay,hraw]
       rw [hraw] at cE
       repeat' (first|(refine ZAL ?_;first|refine Ag ?_|refine uA ?_|refine uI [2] (cR) ?_|refine uK (cP) ?_|refine uK (cE) ?_)|(refine ZRG ?_;first|refine Be ?_|refine Bf ?_|refine uR ?_)|refine uC ?_|refine Bh ?_|refine uS 11 (fun hb=>?_) (fun hb=>?_)|refine uS 16 (fun hb=>?_) (fun hb=>?_)|refine ZK2 (fun hc=>?_) (fun hc=>?_)|fail)
       all_goals exact Bx Tryz.results263
      ·rw [fP e] at cE hmay
       rw [AeR hmay,hmay]
       rw [hraw] at cE
       repeat' (first|(refine ZAL ?_;first|(refine kL 3118 rfl ?_;first|(refine zkD 68 rfl ?_;refine uA ?_;(try refine uz 68 ?_)))|refine Ag ?_|refine uA ?_|refine uI [2] (cR) ?_|refine uK (cP) ?_|refine uK (cE) ?_)|(refine ZRG ?_;first|refine Be ?_|refine Bf ?_|refine uR ?_)|refine uC ?_|refine Bh ?_|refine uS 11 (fun hb=>?_) (fun hb=>?_)|refine uS 16 (fun hb=>?_) (fun hb=>?_)|refine ZK2 (fun hc=>?_) (fun hc=>?_)|fail)
       all_goals exact Bx Tryz.results263
 ·have hmay:=AjZ hA
  rw [AeR hmay,hmay]
  cases h0:AY c
  ·rw [h0] at c1
   refine ZEN Tryz.func263 Tryz.ntmps263 ?_
   repeat' (first|refine F0 ?_|refine uS 11 (fun hb=>?_) (fun hb=>?_)|refine uS 16 (fun hb=>?_) (fun hb=>?_)|refine ZK2 (fun hc=>?_) (fun hc=>?_)|fail)
   all_goals exact Bx Tryz.results263
  ·rw [h0] at c1
   by_cases k:c.kind=3
   ·have e : ¬(l.length:Int)=sizeC c:=fun e=>hA ⟨h0,k,e⟩
    refine ZEN Tryz.func263 Tryz.ntmps263 ?_
    repeat' (first|(refine ZAL ?_;first|(refine kL 3118 rfl ?_;first|(refine zkD 23 rfl ?_;refine uA ?_;(try refine uz 23 ?_)))|refine Ag ?_|refine uA ?_|refine uK (c1) ?_|refine uK (c2) ?_)|(refine ZRG ?_;first|refine Be ?_|refine Bf ?_|refine uR ?_)|refine uC ?_|refine Bh ?_|refine uS 11 (fun hb=>?_) (fun hb=>?_)|refine uS 16 (fun hb=>?_) (fun hb=>?_)|refine ZK2 (fun hc=>?_) (fun hc=>?_)|fail)
    all_goals exact Bx Tryz.results263
   ·refine ZEN Tryz.func263 Tryz.ntmps263 ?_
    repeat' (first|refine F0 ?_|refine uS 11 (fun hb=>?_) (fun hb=>?_)|refine uS 16 (fun hb=>?_) (fun hb=>?_)|refine ZK2 (fun hc=>?_) (fun hc=>?_)|fail)
    all_goals exact Bx Tryz.results263
theorem AkA {c:AB} {l:List Int} (h : ¬(AY c=true∧c.kind≠3∧(l.length:Int)=sizeC c)):FK c l=false:=by
 unfold FK
 cases hk:AY c
 ·rfl
 ·by_cases k:c.kind≠3
  ·have : ¬(l.length:Int)=sizeC c:=fun e=>h ⟨hk,k,e⟩
   rw [fP this];simp
  ·rw [fP k];rfl
theorem AdY {c:AB} {l:List Int} (hk:AY c=true) (k:c.kind≠3) (e:(l.length:Int)=sizeC c):FK c l=decide (putX c (KH c l)=l):=by
 unfold FK;rw [hk,fR k,fR e];rfl
theorem AeS {c:AB} {l:List Int} (h:FK c l=false):readX c l=noX:=by unfold readX;rw [h];rfl
theorem AkZ {c:AB} {l:List Int} (h:FK c l=true):readX c l=KH c l:=by unfold readX;rw [h];rfl
theorem y1_ (l:List Int) (n:Nat) (m k:Int) (hn:(n:Int)≤k) (hm:0≤m):CZ l n (min m k)=CZ l n m:=by rw [FZ,FZ];congr 2;omega
theorem AlH (c:AB) (l:List Int) (hs:c.start.length≤1152921504606846976) (hU:okU l) (hl0:l.length≤1152921504606846976):Cd Tryz.prog 268 [aCf c,fU l] (.tup [fCl (readX c l),bo (FK c l)]) []:=by
 have c1:=EH c hs
 have c2:=j7_ c hs
 have g1:(l.map tU).length=l.length:=fH _
 by_cases hA:AY c=true∧c.kind≠3∧(l.length:Int)=sizeC c
 ·obtain ⟨h0,h1,h2⟩:=hA
  rw [h0] at c1
  have hsh:=AJ h0
  have hb:=hsh.h1 h1
  have ht0:=hsh.t0
  have ht1:=hsh.t1
  obtain ⟨n,hn⟩ : ∃n:Nat,c.cap=n:=⟨c.cap.toNat,by omega⟩
  obtain ⟨t,ht⟩ : ∃t:Nat,c.threads=t:=⟨c.threads.toNat,by omega⟩
  have hlen:l.length=1+n+t:=by
   have h3:=h2
   rw [MW h0 h1,hn,ht] at h3
   omega
  have hl:l.length≤1000000:=by omega
  have hN:=PX l hl0
  have hb0:=UQ hU
  have hraw:KH c l=⟨c.cap,CZ (l.drop 1) n (min (l.headD 0) 17),GX (l.drop (1+n)) t⟩:=by unfold KH;rw [y1_ _ _ _ _ (by omega) hb0.1,hn,ht];rfl
  have cR:=AgA l hU (min (l.headD 0) 17) c.cap n 1 hn (by omega) hl (by omega)
  have cS:=r1_ l hU c.threads t (1+n) ht (by omega) hl
  have k1:(KH c l).list.length≤1152921504606846976:=by
   rw [hraw];have:=UX (l.drop 1) n (min (l.headD 0) 17);show (CZ _ _ _).length≤_;omega
  have k2:(KH c l).done.length≤1152921504606846976:=by rw [hraw];show (GX _ _).length≤_;simp [GX];omega
  have cP:=j_ c (KH c l) hs k1 k2
  have hpl:(putX c (KH c l)).length≤1152921504606846976:=by
   cases hf:DT c (KH c l)
   ·unfold putX;rw [hf];exact fO _
   ·have:=MJ hf;omega
  have cE:=YY (putX c (KH c l)) l hpl
  have hmay:=AdY h0 h1 h2
  rw [hraw] at cP
  by_cases e:putX c (KH c l)=l
  ·rw [fR e] at cE hmay
   rw [AkZ hmay,hmay,hraw]
   rw [hraw] at cE
   refine By ?_
   repeat' (first|(refine ZAL ?_;first|refine uA ?_|refine uK (c1) ?_|refine uK (c2) ?_|refine uI [2] (hN) ?_|refine uK (cP) ?_|refine uK (cE) ?_)|(refine ZRG ?_;first|refine uR ?_|refine uJ [2] (cR) ?_|refine uJ [2] (cS) ?_)|refine uC ?_|refine AW.drawU (id:=5) mixed 1 qR ?_|fail)
   all_goals exact Bz Tryz.results268
  ·rw [fP e] at cE hmay
   rw [AeS hmay,hmay]
   rw [hraw] at cE
   refine By ?_
   repeat' (first|(refine ZAL ?_;first|(refine kL 4014 rfl ?_;first|(refine zkD 50 rfl ?_;refine uA ?_;(try refine uz 50 ?_)))|refine uA ?_|refine uK (c1) ?_|refine uK (c2) ?_|refine uI [2] (hN) ?_|refine uK (cP) ?_|refine uK (cE) ?_)|(refine ZRG ?_;first|refine uR ?_|refine uJ [2] (cR) ?_|refine uJ [2] (cS) ?_)|refine uC ?_|refine AW.drawU (id:=5) mixed 1 qR ?_|refine uS 12 (fun hb=>?_) (fun hb=>?_)|refine uS 17 (fun hb=>?_) (fun hb=>?_)|refine ZK2 (fun hc=>?_) (fun hc=>?_)|fail)
   all_goals exact Bz Tryz.results268
 ·have hmay:=AkA hA
  rw [AeS hmay,hmay]
  cases h0:AY c
  ·rw [h0] at c1
   refine By ?_
   repeat' (first|refine F4 ?_|refine uS 12 (fun hb=>?_) (fun hb=>?_)|refine uS 17 (fun hb=>?_) (fun hb=>?_)|refine ZK2 (fun hc=>?_) (fun hc=>?_)|fail)
   all_goals exact Bz Tryz.results268
  ·rw [h0] at c1
   by_cases k:c.kind=3
   ·refine By ?_
    repeat' (first|refine F4 ?_|refine uS 12 (fun hb=>?_) (fun hb=>?_)|refine uS 17 (fun hb=>?_) (fun hb=>?_)|refine ZK2 (fun hc=>?_) (fun hc=>?_)|fail)
    all_goals exact Bz Tryz.results268
   ·have e : ¬(l.length:Int)=sizeC c:=fun e=>hA ⟨h0,k,e⟩
    refine By ?_
    repeat' (first|(refine ZAL ?_;first|(refine kL 4014 rfl ?_;first|(refine zkD 24 rfl ?_;refine uA ?_;(try refine uz 24 ?_)))|refine uA ?_|refine uK (c1) ?_|refine uK (c2) ?_)|refine uR ?_|refine uC ?_|refine AW.drawU (id:=5) mixed 5 qR ?_|refine uS 12 (fun hb=>?_) (fun hb=>?_)|refine uS 17 (fun hb=>?_) (fun hb=>?_)|refine ZK2 (fun hc=>?_) (fun hc=>?_)|fail)
    all_goals exact Bz Tryz.results268
theorem k_ (f:FuncId) (fi cap:List AV) (key:DOp→Int) (l:List DOp) (k:Nat) (hl:l.length≤1152921504606846976) (hg:FC (.fn (.func f) fi cap) key l)
  (hup:upB (CK 1) (.fn (.func f) fi cap) = .fn (.func f) fi cap) (hps : ∀heap sel,BG heap sel (.fn (.func f) fi cap) (.fn (.func f) fi cap)) :
  Cio Tryz.prog 261 [.sl 0 k l.length,i64 l.length,.fn (.func f) fi cap] [.row k 65 8 (l.map tOp)] (.tup []) [.row k 65 8 ((isort key l).map tOp)]:=by
 refine ZEN Tryz.func261 Tryz.ntmps261 ?_
 repeat' (first|refine A0 ?_|fail)
 refine AW.loopP (fun (x:Nat × List DOp)=>20∣x.1∧x.1≤l.length∧(∀c,20∣c→c<x.1→BF key (seg x.2 c (c+20)))∧SE key l x.2∧x.2.length=l.length) (fun (x:Nat × List DOp)=>(pu (pu (pu (pu (pu (pu (fun _=>.any) 0 (.sl 0 k l.length)) 1 (i64 l.length)) 2 (.fn (.func f) fi cap)) 6 (i64 20)) 7 (i64 x.1)) 8 (i64 ((x.1+20:Nat):Int)))) (fun (x:Nat × List DOp)=>[.row k 65 8 (x.2.map tOp)]) (fun (x:Nat × List DOp)=>l.length-x.1) ((0,l)) ?_ ?_ ?_
 ·exact ⟨Nat.dvd_zero _,fO _,fun c _ h=>by dsimp only at h;omega,SE.refl _,rfl⟩
 ·exact Wk.cq 1
 ·rintro ⟨a,M⟩ ⟨h2,h3,h4,h5,h6⟩
  dsimp only at h2 h3 h4 h5 h6 ⊢
  have hgM:=hg.mono fun x hx=>h5.mem.1 hx
  by_cases hb:a+20≤l.length
  ·have c1:=RF f fi cap key M k a (a+20) (by omega) (by omega) (by omega) hgM hup
   rw [h6] at c1
   repeat' (first|refine Ao ?_|fail)
   all_goals try exact ZE5
   refine ⟨(a+20,srt key M a (a+20)),⟨mU h2 (mN _),hb,LP h2 h4 (by omega),h5.trans (IQ (by omega)),by dsimp only;rw [DP (by omega) (by omega),h6]⟩,by dsimp only;omega,?_⟩
   exact Wk.cq 1
  ·have c1:=RF f fi cap key M k a l.length (by omega) (by omega) (by omega) hgM hup
   have f1:=LO h2 h4 (by omega) (by omega)
   have f2:=h5.trans (IQ (key:=key) (l:=M) (a:=a) (b:=l.length) (by omega))
   have f3:=DP (key:=key) (l:=M) (a:=a) (b:=l.length) (by omega) (by omega)
   rw [h6] at c1 f1 f3
   clear h4 h5 hgM
   generalize srt key M a l.length=M1 at *
   repeat' (first|refine Ao ?_|fail)
   all_goals try exact ZE5
   refine AW.loopP (fun (y:Nat × List DOp)=>0<y.1∧y.1≤2*l.length+20∧(∀c,y.1∣c→BF key (seg y.2 c (c+y.1)))∧SE key l y.2∧y.2.length=l.length) (fun (y:Nat × List DOp)=>(pu (pu (pu (pu (fun _=>.any) 0 (.sl 0 k l.length)) 1 (i64 l.length)) 2 (.fn (.func f) fi cap)) 6 (i64 y.1))) (fun (y:Nat × List DOp)=>[.row k 65 8 (y.2.map tOp)]) (fun (y:Nat × List DOp)=>l.length+1-y.1) ((20,M1)) ?_ ?_ ?_
   ·exact ⟨by dsimp only;omega,by dsimp only;omega,f1,f2,f3⟩
   ·exact Wk.cq 1
   ·rintro ⟨d,M2⟩ ⟨g1,g2,g3,g4,g5⟩
    dsimp only at g1 g2 g3 g4 g5 ⊢
    by_cases hd:d<l.length
    ·repeat' (first|refine A0 ?_|fail)
     all_goals try exact ZE5
     refine AW.loopP (fun (z:Nat × Nat × List DOp)=>2*d∣z.1∧z.1≤l.length∧z.2.1=z.1+2*d∧(∀c,2*d∣c→c<z.1→BF key (seg z.2.2 c (c+2*d)))∧(∀c,d∣c→z.1≤c→BF key (seg z.2.2 c (c+d)))∧SE key l z.2.2∧z.2.2.length=l.length) (fun (z:Nat × Nat × List DOp)=>(pu (pu (pu (pu (pu (pu (fun _=>.any) 0 (.sl 0 k l.length)) 1 (i64 l.length)) 2 (.fn (.func f) fi cap)) 6 (i64 d)) 7 (i64 z.1)) 8 (i64 z.2.1))) (fun (z:Nat × Nat × List DOp)=>[.row k 65 8 (z.2.2.map tOp)]) (fun (z:Nat × Nat × List DOp)=>l.length-z.1) ((0,2*d,M2)) ?_ ?_ ?_
     ·exact ⟨Nat.dvd_zero _,fO _,by dsimp only;omega,fun c _ h=>by dsimp only at h;omega,fun c hc _=>g3 c hc,g4,g5⟩
     ·exact Wk.cq 1
     ·rintro ⟨a,b,M3⟩ ⟨k1,k2,k3,k4,k5,k6,k7⟩
      dsimp only at k1 k2 k3 k4 k5 k6 k7 ⊢
      have hgM:=hg.mono fun x hx=>k6.mem.1 hx
      have kd:d∣a:=Nat.dvd_trans (Nat.dvd_mul_left _ _) k1
      have kd2:d∣a+d:=mU kd (mN _)
      have t1:=k5 a kd (fN _)
      have t2:=k5 (a+d) kd2 (by omega)
      by_cases hb:b≤l.length
      ·have cM:=MZ f fi cap key hup hps k _ M3 a (a+d) b rfl (by omega) (by omega) (by omega) (by omega) hgM t1 (by rwa [show a+d+d=b by omega] at t2)
       rw [k7] at cM
       have u1 : ∀c,2*d∣c→c<b→BF key (seg (srt key M3 a b) c (c+2*d)):=by have:=LP k1 k4 (by omega);rwa [←k3] at this
       have u2:=QO (b:=b) k5 (by omega) (by omega)
       have u3:=k6.trans (IQ (key:=key) (l:=M3) (a:=a) (b:=b) (by omega))
       have u4:=DP (key:=key) (l:=M3) (a:=a) (b:=b) (by omega) (by omega)
       rw [k7] at u4
       generalize srt key M3 a b=M4 at *
       repeat' (first|refine Ck ?_|fail)
       all_goals try exact ZE5
       refine ⟨(b,b+2*d,M4),⟨by dsimp only;rw [k3];exact mU k1 (mN _),hb,rfl,u1,u2,u3,u4⟩,by dsimp only;omega,?_⟩
       exact Wk.cq 1
      ·by_cases hm:a+d<l.length
       ·have cM:=MZ f fi cap key hup hps k _ M3 a (a+d) l.length rfl (by omega) (by omega) (by omega) (by omega) hgM t1 (by rwa [MR (c:=l.length) (by omega) (by omega)] at t2)
        rw [k7] at cM
        have u1 : ∀c,2*d∣c→BF key (seg (srt key M3 a l.length) c (c+2*d)):=by have:=LO k1 k4 (by omega) (by omega);rwa [k7] at this
        have u3:=k6.trans (IQ (key:=key) (l:=M3) (a:=a) (b:=l.length) (by omega))
        have u4:=DP (key:=key) (l:=M3) (a:=a) (b:=l.length) (by omega) (by omega)
        rw [k7] at u4
        rw [lJ] at u1
        generalize srt key M3 a l.length=M4 at *
        repeat' (first|refine Ck ?_|fail)
        all_goals try exact ZE5
        refine ⟨(d*2,M4),⟨by dsimp only;omega,by dsimp only;omega,u1,u3,u4⟩,by dsimp only;omega,?_⟩
        exact Wk.cq 1
       ·have u1 : ∀c,2*d∣c→BF key (seg M3 c (c+2*d)):=YO k1 k4 k5 (by omega)
        rw [lJ] at u1
        repeat' (first|refine A0 ?_|fail)
        all_goals try exact ZE5
        refine ⟨(d*2,M3),⟨by dsimp only;omega,by dsimp only;omega,u1,k6,k7⟩,by dsimp only;omega,?_⟩
        exact Wk.cq 1
    ·rw [m2_ g3 g4 (by omega)]
     repeat' (first|refine A0 ?_|fail)
     all_goals exact Ah Tryz.results261
theorem SP (f:FuncId) (fi cap:List AV) (key:DOp→Int) (l:List DOp) (k:Nat) (hl:l.length≤1152921504606846976) (hg:FC (.fn (.func f) fi cap) key l)
  (hup:upB (CK 1) (.fn (.func f) fi cap) = .fn (.func f) fi cap) (hps : ∀heap sel,BG heap sel (.fn (.func f) fi cap) (.fn (.func f) fi cap)) :
  Cio Tryz.prog 247 [.sl 0 k l.length,.fn (.func f) fi cap] [.row k 65 8 (l.map tOp)] (.tup []) [.row k 65 8 ((isort key l).map tOp)]:=by
 have hlt:(l.map tOp).length=l.length:=fH _
 have c1:=k_ f fi cap key l k hl hg hup hps
 refine ZEN Tryz.func247 Tryz.ntmps247 ?_
 repeat' (first|refine Ew ?_|fail)
 all_goals (exact Fin.q Tryz.results247 .nil [])
def AcB (a b:DOp):Int:=if a.phase≠b.phase then (if a.phase<b.phase then -1 else 1) else if a.thread≠b.thread then (if a.thread<b.thread then -1 else 1) else 0
theorem m1_ (b:Bool):Cd Tryz.prog 249 [bo b] (i64 (if b then -1 else 1)) []:=by
 cases b
 all_goals
  refine ZEN Tryz.func249 Tryz.ntmps249 ?_
  repeat' (first|refine A0 ?_|fail)
  all_goals (exact A5 Tryz.results249)
theorem AfA (x y:DOp):Cd Tryz.prog 248 [aOp x,aOp y] (i64 (AcB x y)) []:=by
 obtain ⟨t1,s1,p1,⟨k1,ar1,v1,d1,cs1⟩⟩:=x
 obtain ⟨t2,s2,p2,⟨k2,ar2,v2,d2,cs2⟩⟩:=y
 unfold AcB
 dsimp only
 by_cases h1:p1=p2
 ·rw [fM (by simp [h1])]
  by_cases h2:t1=t2
  ·rw [fM (by simp [h2])]
   refine C1 ?_
   repeat' (first|refine A0 ?_|fail)
   all_goals exact A2 Tryz.results248
  ·rw [fL h2]
   have cB:=m1_ (decide (t1<t2))
   by_cases h3:t1<t2
   ·rw [fL h3]
    rw [fR h3] at cB
    refine C1 ?_
    repeat' (first|refine Cn ?_|fail)
    all_goals exact A2 Tryz.results248
   ·rw [fM h3]
    rw [fP h3] at cB
    refine C1 ?_
    repeat' (first|refine Cn ?_|fail)
    all_goals exact A2 Tryz.results248
 ·rw [fL h1]
  have cB:=m1_ (decide (p1<p2))
  by_cases h3:p1<p2
  ·rw [fL h3]
   rw [fR h3] at cB
   refine C1 ?_
   repeat' (first|refine Cn ?_|fail)
   all_goals exact A2 Tryz.results248
  ·rw [fM h3]
   rw [fP h3] at cB
   refine C1 ?_
   repeat' (first|refine Cn ?_|fail)
   all_goals exact A2 Tryz.results248
theorem AcC {x y:DOp} (hx:sI x.thread) (hy:sI y.thread):AcB x y<0↔KF x<KF y:=by
 unfold AcB KF
 unfold sI at hx hy
 repeat' split
 all_goals omega
theorem x1_ (l:List DOp) (hl : ∀x∈l,sI x.thread):FC (.fn (.func 248) [] []) KF l:=fun x hx y hy =>
 ⟨AcB x y,AcC (hl x hx) (hl y hy),⟨_,_,[],[],rfl,Tryz.func248,by kernel_rfl,by kernel_rfl,fun _=>.nil,fun _=>.nil,AfA x y⟩⟩
theorem QQ (l:List DOp) (h:l.length≤1759218604441):Cd Tryz.prog 95 [.ln (l.map tOp)] (.sl 0 0 l.length) [.row 0 65 8 (l.map tOp)]:=by
 refine ZEN Tryz.func95 Tryz.ntmps95 ?_
 repeat' (first|(refine ZAL ?_;first|(refine kL 1513 rfl ?_;first|refine DU rfl rfl 47 _ _ rfl ud47 rfl (fun b hb=>?_))|refine uA ?_)|refine uC ?_|refine kcc rfl (fun hc=>?_) (fun hc=>?_)|fail)
 ·have hl:l=[]:=by simpa using hb hc
  subst hl
  refine Fin.wk (Wk.own 2 rfl 65 8 (.push rfl rfl)) ?_
  exact Ab Tryz.results95
 ·exact Ab Tryz.results95
theorem AkT (l:List DOp) (h:l.length≤1759218604441) (hl : ∀x∈l,sI x.thread):Cd Tryz.prog 219 [.ln (l.map tOp)] (.sl 0 0 l.length) [.row 0 65 8 ((isort KF l).map tOp)]:=by
 have c1:=QQ l (by omega)
 have c2:=fun k=>SP 248 [] [] KF l k (by omega) (x1_ l hl) rfl (fun _ _=>.fnL .nil .nil)
 refine ZEN Tryz.func219 Tryz.ntmps219 ?_
 repeat' (first|(refine ZAL ?_;first|refine uA ?_|refine uK (c1) ?_|refine uI [0] (c2 _) ?_)|refine uC ?_|fail)
 all_goals first|(exfalso;omega)|(exact Fin.q Tryz.results219 (.cons (.tmp rfl) .nil) [0])
end
end Go.Proofs.YtccefppppedgkaaGreat
